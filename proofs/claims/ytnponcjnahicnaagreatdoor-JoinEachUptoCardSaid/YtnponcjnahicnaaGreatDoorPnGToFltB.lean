/- Parts of the proof. -/
import Derived.Test.YtnponcjnahicnaaGreatDoorRelUToPnE
import Derived.Laws.EntriesVeiled
import Derived.Laws.FloatArith
set_option linter.unusedSimpArgs false
set_option linter.unusedVariables false
set_option maxRecDepth 100000
set_option maxHeartbeats 1000000
open Go.Proofs.Tryz(prog)
open List(any_eq_true filter_filter filter_map filter_nil foldl_cons length_zipIdx set_cons_succ set_cons_zero zipIdx_append zipIdx_cons zipIdx_nil)
namespace Go.Proofs.P16
open Go.RowKit Go.Ink
attribute [local go_sem] Oper.semAt_some
def qat (r:RuleD):Bool:=decide (r.body.length<=256)&&qcz r.head&&r.body.all qcj
def quu (r:RuleD):Prop:=smallA r.head/\ ∀L,L∈r.body->q3x L
def qaq (r:RuleD)(sh sb:Value):Value:=.agg #[.string r.head.pred,sh,sb]
theorem q0b (n:Nat)(L:LitD)(g:Value)(w:World)(d:qak n w g L.atom.args)(z:n<=w.heap.size):Calls prog 253 #[qep L g] w fun e w'=>e=.returned (.bool (!qcj L))/\Keep (fun b=>b<w.heap.size) w w':=by
 have h:=fun W (hK:wE w W)=>q8n n L g W (qan d hK.mt) (by have:=hK.size;omega);obtain⟨u,x,rfl,-,-,-⟩:=id d;obtain⟨k,⟨pr,args⟩,⟨q,lt⟩,⟨t,s⟩⟩:=L;unfold qep at h⊢;simp only at h⊢;obtain⟨v,c⟩: ∃b,qcj ⟨k,⟨pr,args⟩,⟨q,lt⟩,⟨t,s⟩⟩=b:=⟨_,rfl⟩;simp only [c]at h;rw [c];clear d;refine hd2 ?_ h c;clear h c;intro m l
 go_enter Tryz.func253,Tryz.ntmps253
 go_wp2_with fail;refine(m.o _ kAl).mono ?_;rintro e R ⟨rfl,p⟩;go_wp2_with fail;go_ret;exact⟨rfl,kAl.trans (p.mono fun b y _=>by simp;omega)⟩
theorem q0c (n:Nat)(r:RuleD)(sh sb:Value)(w:World)(hr:RuleIn n w sh sb r)(hn:n<=w.heap.size):Calls prog 237 #[qaq r sh sb] w fun e w'=>e=.returned (.bool (qat r))/\Keep (fun b=>b<w.heap.size) w w':=by
 obtain⟨⟨pr,args⟩,body⟩:=r;obtain⟨hh,y⟩:=hr;unfold qaq;simp only at hh y⊢;have Y:qat ⟨⟨pr,args⟩,body⟩=(decide (body.length<=256)&&qcz ⟨pr,args⟩&&body.all qcj):=rfl;have t:=fun W (hK:wE w W)=>qvl n ⟨pr,args⟩ sh W (qan hh hK.mt) (by have:=hK.size;omega);have g:=fun W (hK:Keep (fun b=>b<w.heap.size) w W)=>qla (gf:=253) (bs:= #[]) (lb:= #[]) (qd6 Tryz.func253 wB rfl) (fun L=>!qcj L) n sb body W (qi8 y (hK.mono fun b _ h=>wA)) (by have:=hK.size;omega)
  (fun x _ W2 af sa ah=>(q0b n x sa W2 ah (by have:=hK.size;have:=af.size;omega)).mono fun e w' ⟨e1,z⟩=>⟨e1,z⟩)
 rw [qlk qcj body]at g;obtain⟨bA,u⟩: ∃b,qcz ⟨pr,args⟩=b:=⟨_,rfl⟩;obtain⟨bL,v⟩: ∃b,body.all qcj=b:=⟨_,rfl⟩;rw [u,v,show decide (body.length<=256)=decide ((body.length:Int)<=256) from by rw [yj];omega]at Y;simp only [u]at t;simp only [v]at g;obtain⟨aa,ca,rfl,-,-,-⟩:=id hh;obtain⟨ab,cb,rfl,av,au,-⟩:=id y;obtain⟨W0,c⟩:=ex (w.alloc (.cells #[.string pr,.slice aa args.length ca,.slice ab body.length cb] 27));have k0:wE w W0:=by rw [←c];exact kAl
 have hz:=k0.size;have c2:W0.cell? ⟨w.heap.size,2,none⟩=some (.slice ab body.length cb):=by rw [←c];simp
 have l0:w.heap.size<W0.heap.size:=by rw [←c];simp
 have m:=t W0 k0;clear hh y u v t;obtain⟨b3,d⟩: ∃b,decide ((body.length:Int)<=256)=b:=⟨_,rfl⟩;rw [d]at Y;refine hd5 ?_ Y m g k0 c;clear Y m g k0 c;intro p q R U l;cases b3
 ·have ag: ¬(body.length:Int)<=256:=xT d;clear d
  go_enter Tryz.func237,Tryz.ntmps237
  go_wp2_with fail;go_ret;exact⟨by rw [p.o];rfl,by rw [l.o];exact U.o.mt⟩
 ·have ag:(body.length:Int)<=256:=yE d;clear d;cases bA
  all_goals go_enter Tryz.func237,Tryz.ntmps237
  all_goals go_wp2_with fail
  all_goals rw [l.o]
  all_goals refine q.o.mono ?_
  all_goals (rintro e W1 ⟨rfl,z⟩;have aq:=z.cell c2 l0;have ax:=z.size;have kk:Keep (fun b=>b<w.heap.size) w W1:=U.o.mt.trans (z.mono fun b y _=>wA);clear z c2;have s:=zg kk;clear kk)
  ·go_wp2_with fail;go_ret;exact⟨by rw [p.o];rfl,s.o⟩
  ·go_wp2_with fail;refine(R.o _ s.o).mono ?_;rintro e W2 ⟨rfl,k2⟩;go_wp2_with fail;go_ret;exact⟨by rw [p.o];cases bL<;>rfl,s.o.trans (k2.mono fun b y _=>wA)⟩
def qhz (n:Int):Bool:=decide (n<0) ||decide (2147483647<n)
def qif (s:qas):Bool:=qhz s.rows ||s.dist.any qhz
def qb0 (l:List qas):Bool:=!l.any qif
theorem qyf (x:Int)(w:World):Calls prog 255 #[.int .i64 x] w fun e w'=>e=.returned (.bool (qhz x))/\w'=w:=by
 by_cases h:x<0
 ·have c:qhz x=true:=by unfold qhz;rw [zS h];rfl
  refine hd1 ?_ c;clear c;intro b
  go_enter Tryz.func255,Tryz.ntmps255
  go_wp2_with fail;go_ret;exact⟨by rw [b.o];rfl,rfl⟩
 ·have c:qhz x=decide (2147483647<x):=by unfold qhz;rw [zM h];rfl
  refine hd1 ?_ c;clear c;intro b
  go_enter Tryz.func255,Tryz.ntmps255
  go_wp2_with fail;go_ret;exact⟨by rw [b.o];rfl,rfl⟩
theorem q2x (n B:Nat)(s:qas)(U:Value)(w:World)(q:qay n w U s.dist)(hn:n<=w.heap.size)(hB:w.cell? ⟨B,0,none⟩=some (.func (.func 255) #[] #[])):
  Calls prog 257 #[qmd s U,.pointer (some ⟨B,0,none⟩)] w fun e w'=>e=.returned (.bool (qif s))/\Keep (fun b=>b<w.heap.size) w w':=by
 obtain⟨pr,rows,d⟩:=s;unfold qmd;simp only at q⊢;have z:qif ⟨pr,rows,d⟩=(qhz rows ||d.any qhz):=rfl;have v:=fun w=>qyf rows w;have y:=fun W (hK:Keep (fun b=>b<w.heap.size) w W)=>qxj (gf:=255) (bs:= #[]) (lb:= #[]) (qd6 Tryz.func255 wB rfl) qhz n U d W (qkr q (hK.mono fun b _ h=>wA)) (by have:=hK.size;omega)
  (fun x _ Y _=>(qyf x Y).mono fun e w' ⟨e1,R⟩=>⟨e1,by subst R;exact Keep.refl _ _⟩)
 obtain⟨b1,g⟩: ∃b,qhz rows=b:=⟨_,rfl⟩;obtain⟨b2,l⟩: ∃b,d.any qhz=b:=⟨_,rfl⟩;rw [g,l]at z;simp only [g]at v;simp only [l]at y;obtain⟨a,c,rfl,-,-,-⟩:=id q;have l0:B<w.heap.size:=zQ w _ hB;clear q g l;refine hd3 ?_ z v y;clear z v y;intro p t u;cases b1
 all_goals go_enter Tryz.func257,Tryz.ntmps257
 all_goals go_wp2_with fail
 all_goals refine(t.o _).mono ?_
 all_goals (rintro e w1 ⟨rfl,m⟩;have m:=m.symm;subst m)
 all_goals go_wp2_with fail
 ·refine(u.o _ kAl).mono ?_;rintro e w1 ⟨rfl,R⟩;go_wp2_with fail;go_ret;exact⟨by rw [p.o];rfl,kAl.trans (R.mono fun b hb _=>by simp;omega)⟩
 ·go_ret;exact⟨by rw [p.o];rfl,kAl⟩
theorem q0d (n:Nat)(l:List qas)(v:Value)(w:World)(y:SizesIn n w v l)(hn:n<=w.heap.size):Calls prog 238 #[v] w fun e w'=>e=.returned (.bool (qb0 l))/\Keep (fun b=>b<w.heap.size) w w':=by
 have u:qb0 l=!l.any qif:=rfl;obtain⟨W0,d⟩:=ex (w.alloc (.cells #[.func (.func 255) #[] #[]] 190));have m:wE w W0:=by rw [←d];exact kAl
 have hz:=m.size;have U:W0.cell? ⟨w.heap.size,0,none⟩=some (.func (.func 255) #[] #[]):=by rw [←d];simp
 have l0:w.heap.size<W0.heap.size:=by rw [←d];simp
 have t:=qvk (gf:=257) (bs:= #[]) (lb:= #[.pointer (some ⟨w.heap.size,0,none⟩)]) (qd6 Tryz.func257 wB rfl) qif n v l W0 (y.keep m.mt) wA
  (fun x _ R hK sv z=>q2x n w.heap.size x sv R z (by have:=hK.size;omega) (hK.cell U l0))
 obtain⟨b2,g⟩: ∃b,l.any qif=b:=⟨_,rfl⟩;rw [g]at u;rw [g]at t;obtain⟨a,c,rfl,-,-,-⟩:=id y;clear y g;refine hd4 ?_ u t m d;clear u t m d;intro q p s h
 go_enter Tryz.func238,Tryz.ntmps238
 go_wp2_with fail;rw [h.o];refine p.o.mono ?_;rintro e w1 ⟨rfl,Y⟩;go_wp2_with fail;go_ret;exact⟨by rw [q.o];rfl,s.o.trans (Y.mono fun b hb _=>wA) |>.mt⟩
def qcp (K:List ByteArray)(t:TermD):Bool:=t.var&&!decide (t.text∈K)
def qfa (L:LitD):List TermD:=if L.kind=3 then [L.left,L.right] else L.atom.args
def qc2 (K:List ByteArray)(L:LitD):Bool:=decide (L.kind=1) ||!(qfa L).any (qcp K)
theorem q2y (w:World):(zeroValue 4).run prog w=.ok (.bool false) w:=wB
theorem qpe (M:Nat)(K:List ByteArray)(t:TermD)(w:World)(g:SetIn w M K):Calls prog 241 #[.map (some M),qcy t] w fun e w'=>e=.returned (.bool (qcp K t))/\wE w w':=by
 obtain⟨v,s⟩:=t;unfold qcy;simp only;have d:qcp K ⟨v,s⟩=(v&&!decide (s∈K)):=rfl;have m:=fun w (h:SetIn w M K)=>qis (P:=prog) (T:=292) (K:=9) (E:=4) Tryz.underlying292 Tryz.underlying9 q2y h s;obtain⟨b,l⟩:=ex (decide (s∈K));rw [l]at d;simp only [l]at m;have p:=m (w.alloc (.cells #[.bool v,.string s] 77)) (g.keep (Keep.alloc (fun _=>True) _ _) wF);clear m l;refine hd2 ?_ g d;clear g d;intro q c;cases v
 ·clear p
  go_enter Tryz.func241,Tryz.ntmps241
  go_wp2_with fail;go_ret;exact⟨by rw [c.o];rfl,kAl⟩
 ·go_enter Tryz.func241,Tryz.ntmps241
  go_wp2_with fail;go_ret;exact⟨by rw [c.o];rfl,kAl⟩
theorem q0e (n:Nat)(L:LitD)(s:Value)(w:World)(d:qak n w s L.atom.args)(U:n<=w.heap.size):Calls prog 240 #[qep L s] w fun e w'=> ∃sv,e=.returned sv/\qak w'.heap.size w' sv (qfa L)/\wE w w':=by
 obtain⟨t,u,rfl,-,-,-⟩:=id d;obtain⟨k,⟨pr,args⟩,⟨l,lt⟩,⟨p,m⟩⟩:=L;unfold qep;simp only at d⊢;by_cases q:k=3
 ·subst q;have hT:qfa ⟨3,⟨pr,args⟩,⟨l,lt⟩,⟨p,m⟩⟩= [⟨l,lt⟩,⟨p,m⟩]:=rfl;refine hd2 ?_ d hT;clear d hT;intro g b
  go_enter Tryz.func240,Tryz.ntmps240
  go_wp2_with fail;go_ret;refine⟨_,rfl,?_,kAl.trans kAl⟩;rw [b.o];have h:=qb (qh (w.alloc (.cells #[.int .i64 3,.string pr,.slice t args.length u,.bool l,.string lt,.bool p,.string m] 79)) (.cells #[.bool l,.string lt,.bool p,.string m] 77));simp only [zO]at h;have v:=h 0 _ rfl;have y:=h 1 _ rfl;have z:=h 2 _ rfl;have R:=h 3 _ rfl;refine⟨_,_,rfl,wC,by simp [maxLen],fun j x c=>⟨_,0,rfl,wC,?_⟩⟩
  match j,c with
  |0,c=>simp at c;subst c;exact⟨v,y⟩
  |1,c=>simp at c;subst c;exact⟨z,R⟩
 ·have hT:qfa ⟨k,⟨pr,args⟩,⟨l,lt⟩,⟨p,m⟩⟩=args:=by unfold qfa;rw [zF q]
  refine hd2 ?_ d hT;clear d hT;intro g b
  go_enter Tryz.func240,Tryz.ntmps240
  go_wp2_with fail;go_ret;refine⟨_,rfl,?_,kAl⟩;rw [b.o];exact qfj (qan g.o ((Keep.alloc (fun _=>True) _ _).mt)) (by simp;omega)
theorem qsj (n M:Nat)(K:List ByteArray)(L:LitD)(sa:Value)(w:World)(z:SetIn w M K)(R:qak n w sa L.atom.args)(hn:n<=w.heap.size):Calls prog 209 #[.map (some M),qep L sa] w fun e w'=>e=.returned (.bool (qc2 K L))/\Keep (fun b=>b<w.heap.size) w w':=by
 have hM:=z.lt;have l:=fun W (hK:wE w W)=>q0e n L sa W (qan R hK.mt) (by have:=hK.size;omega);have s:=fun W (hK:Keep (fun b=>b<w.heap.size) w W) u (c:qak W.heap.size W u (qfa L))=>qim (gf:=241) (bs:= #[.map (some M)]) (lb:= #[]) (qd6 Tryz.func241 wB rfl) (qcp K) W.heap.size u (qfa L) W c (zG _)
  (fun x _ W2 y=>(qpe M K x W2 (z.keep (hK.trans (y.mono fun b _ _=>by have:=hK.size;omega)) hM)).mono fun e w' ⟨e1,t⟩=>⟨e1,t.mt⟩)
 have g:qc2 K L=(decide (L.kind=1) ||!(qfa L).any (qcp K)):=rfl;obtain⟨b2,h⟩: ∃b,(qfa L).any (qcp K)=b:=⟨_,rfl⟩;rw [h]at g;simp only [h]at s;obtain⟨aa,ca,rfl,-,-,-⟩:=id R;obtain⟨k,⟨pr,args⟩,⟨lv,lt⟩,⟨rv,rt⟩⟩:=L;unfold qep at l⊢;simp only at l g⊢;clear h R z;by_cases U:k=1
 ·subst U;refine hd3 ?_ l s g;clear l s g;intro m p d
  go_enter Tryz.func209,Tryz.ntmps209
  go_wp2_with fail;go_ret;exact⟨by rw [d.o];rfl,kAl⟩
 ·rw [zM U,xH]at g;refine hd3 ?_ l s g;clear l s g;intro m p d
  go_enter Tryz.func209,Tryz.ntmps209
  go_wp2_with fail;refine(m.o _ kAl).mono ?_;rintro e w1 ⟨u,rfl,c,t⟩;have Y:wE w w1:=kAl.trans t;have h3:=p.o w1 Y.mt u c;obtain⟨a3,c3,rfl,-,-,-⟩:=id c;clear c t;refine hd2 ?_ h3 Y;clear h3 Y;intro v q;go_wp2_with fail;refine v.o.mono ?_;rintro e w2 ⟨rfl,k3⟩;go_wp2_with fail;go_ret;exact⟨by rw [d.o];show Ending.returned (.bool (k==1 ||!b2))=_;rw [y7.2 U];rfl,q.o.trans (k3.mono fun b hb _=>by have:=q.o.size;omega) |>.mt⟩
def qro (x:ByteArray)(xs:List ByteArray):Int:=qcc (fun y=>decide (x=y)) xs
theorem q77 (x:ByteArray)(xs:List ByteArray):decide (qro x xs≥0)=decide (x∈xs):=by
 unfold qro;rw [q0u];rw [yu,any_eq_true,zT];exact⟨fun⟨y,h1,h2⟩=>by rw [yE h2];exact h1,fun h=>⟨x,h,wC⟩⟩
theorem qsk {x:ByteArray}{xs:List ByteArray}(h:x∉xs):xs.any (fun y=>decide (x=y))=false:=by
 rw [xZ];intro y b e;exact h (by rw [yE e];exact b)
theorem q2z (n:Nat)(va:Value)(xs:List ByteArray)(x:ByteArray)(w:World)(v:qaf n w va xs)(hn:n<=w.heap.size):
  Calls prog 260 #[va,.string x] w fun e w'=>e=.returned (.int .i64 (qro x xs))/\w'=w:=by
 obtain⟨aa,ca,rfl,an,al,s⟩:=id v;refine hd2 ?_ v s;clear v s;intro af p
 go_enter Tryz.func260,Tryz.ntmps260
 go_wp2_with fail
 go_loopw [8] (fun i wr=> ∃k:Nat,k<=xs.length/\i=.int .i64 (k:Int)/\wr=w/\x∉xs.take k) (fun i _=>xs.length-(intOf i).toNat)
 case atStart=>exact⟨0,wA,rfl,rfl,wC⟩
 case round=>
  obtain⟨k,hk,rfl,Y,b⟩:=hrel;have Y:=Y.symm;subst Y;by_cases R:k<xs.length
  ·obtain⟨y,u⟩: ∃x,xs[k]?=some x:=⟨_,zB R⟩;obtain⟨ba,oa,rfl,ak,f1⟩:=p.o k y u;unfold qgq at f1;simp only [yB]at f1;have aj:ba<w.heap.size:=by omega
   have ad:(k:Int)<xs.length:=wA
   have am:(0:Int)<=k:=wA
   have c: ∀z,z∉xs.take k-> ¬z=y->z∉xs.take (k+1):=fun z h1 h2=>by
    rw [zh,u];simp only [Option.toList_some,zr,zm,not_or];exact⟨h1,h2⟩
   by_cases d:x=y
   ·have U:=qil d;have l:=(show qro x xs=(k:Int) from qgd (fun y=>decide (x=y)) xs k y u (qsk b) (zS d));clear b u d c;refine hd1 ?_ l;clear l;intro m;go_wp2_with fail;go_ret;exact⟨by rw [m.o];try rfl,rfl⟩
   ·have U:=qgn d;have g:=c x b d;clear b u d c;refine hd1 ?_ g;clear g;intro h;go_wp2_with fail;go_roundw
    case rel=>exact⟨k+1,wA,by go_num,by trivial,h.o⟩
    case measure=>simp [intOf];omega
  ·have t:=(show qro x xs= -1 from qgc (fun y=>decide (x=y)) xs (qsk (by rwa [yx wA] at b)));clear b;refine hd1 ?_ t;clear t;intro q;go_wp2_with fail;go_ret;exact⟨by rw [q.o];try rfl,rfl⟩
theorem quv (n:Nat)(g:Value)(xs:List ByteArray)(x:ByteArray)(w:World)(d:qaf n w g xs)(p:n<=w.heap.size):
  Calls prog 247 #[g,.string x] w fun e w'=>e=.returned (.bool (decide (x∈xs)))/\w'=w:=by
 have c:=fun w (d:qaf n w g xs) p=>q2z n g xs x w d p;have c:=c w d p;have m:=q77 x xs;obtain⟨i,hi⟩:=ex (qro x xs);rw [hi]at c m;obtain⟨s,t,rfl,-,-,-⟩:=id d;clear d;refine hd3 ?_ c m hi;clear c m hi;intro h l q
 go_enter Tryz.func247,Tryz.ntmps247
 go_wp2_with fail;refine h.o.mono ?_;rintro e u ⟨rfl,b⟩;have b:=b.symm;subst b;go_wp2_with fail;go_ret;exact⟨by rw [←l.o];rfl,rfl⟩
theorem q78:qb2 prog 125 3 1 8:=qcl (z:=.int .i64 0) wB wB rfl wD wD
theorem qrp:qb2 prog 60 9 1 16:=qcl (z:=.string ⟨#[]⟩) wB wB rfl wD wD
def qbs (K:List ByteArray)(ts:List TermD):List Int:=(ts.zipIdx.filter fun p=>!qcp K p.1).map fun p=>(p.2:Int)
def qb8 (K:List ByteArray)(ts:List TermD):List ByteArray:=qa9 ((ts.filter (qcp K)).map (·.text))
theorem qw3 (K:List ByteArray)(ts:List TermD){k:Nat}{t:TermD}(h:ts[k]?=some t):qbs K (ts.take (k+1))=qbs K (ts.take k)++if qcp K t then [] else [(k:Int)]:=by
 have b:(ts.take k).length=k:=by rw [yC];have:=(zA.1 h).1;omega
 unfold qbs;rw [zh,h,zipIdx_append,yT,zn,b];simp only [Option.toList_some,zipIdx_cons,zipIdx_nil,ye,filter_nil];cases qcp K t<;>simp
theorem q20 (K:List ByteArray)(ts:List TermD){k:Nat}{t:TermD}(h:ts[k]?=some t):qb8 K (ts.take (k+1))=if qcp K t then (if t.text∈qb8 K (ts.take k) then qb8 K (ts.take k) else qb8 K (ts.take k)++ [t.text]) else qb8 K (ts.take k):=by
 unfold qb8;rw [zh,h,yT,zn];simp only [Option.toList_some,ye,filter_nil];cases qcp K t
 ·simp
 ·simp [qic]
theorem ql7 (K:List ByteArray)(ts:List TermD):(qbs K ts).length<=ts.length:=by
 unfold qbs;rw [zL];refine zW (yd _ _) ?_;rw [length_zipIdx];exact zG _
theorem ql8 (K:List ByteArray)(ts:List TermD):(qb8 K ts).length<=ts.length:=by
 unfold qb8;refine zW (qm7 _) ?_;rw [zL];exact yd _ _
structure qfb where
 lit:Int
 bound:List Int
 new:List ByteArray
 deriving DecidableEq,Inhabited
def qbh (K:List ByteArray)(L:LitD)(i:Int):qfb:=if L.kind=3 then ⟨i,[],[]⟩ else ⟨i,qbs K L.atom.args,qb8 K L.atom.args⟩
def qkp (s:qfb)(bv nv:Value):Value:=.agg #[.int .i64 s.lit,bv,nv]
def qdb (K:List ByteArray)(new:List ByteArray):List ByteArray:=new.foldl (fun acc x=>if x∈acc then acc else acc++ [x]) K
theorem qw4 (K l:List ByteArray){k:Nat}{x:ByteArray}(h:l[k]?=some x):qdb K (l.take (k+1))=if x∈qdb K (l.take k) then qdb K (l.take k) else qdb K (l.take k)++ [x]:=by
 unfold qdb;rw [zh,h,yl]
 rfl
theorem q79 {w:World}{M:Nat}{K:List ByteArray}(e:SetIn w M K){b o:Nat}{v:Value}(h:w.cell? ⟨b,o,none⟩=some v):b≠M:=by
 rintro rfl;obtain⟨g,c,d,-⟩:=e;simp [World.cell?,d]at h
theorem qsl (n M:Nat)(K:List ByteArray)(s:qfb)(bv nv:Value)(w:World)(R:SetIn w M K)(hn:qaf n w nv s.new)(al:n<=w.heap.size):
  Calls prog 212 #[.map (some M),qkp s bv nv] w fun e w'=>e=.returned (.tuple #[])/\SetIn w' M (qdb K s.new)/\Keep (fun b=>b≠M) w w':=by
 obtain⟨i,bd,new⟩:=s;unfold qkp;simp only at hn⊢;obtain⟨a,c,rfl,af,ae,t⟩:=id hn;have hM:=R.lt;clear hn;refine hd2 ?_ t R;clear t R;intro m l
 go_enter Tryz.func212,Tryz.ntmps212
 go_wp2_with fail
 go_loopw [9] (fun i wr=> ∃k:Nat,k<=new.length/\i=.int .i64 (k:Int)/\Keep (fun b=>b≠M) w wr/\SetIn wr M (qdb K (new.take k))) (fun i _=>new.length-(intOf i).toNat)
 case atStart=>exact⟨0,wA,rfl,kAl,l.o.keep (Keep.alloc (fun _=>True) _ _) wF⟩
 case round=>
  obtain⟨k,hk,rfl,hK,v⟩:=hrel;have an:=hK.size;by_cases Y:k<new.length
  ·have ag:(k:Int)<new.length:=by omega
   have ak:(0:Int)<=k:=wA
   obtain⟨x,hx⟩: ∃x,new[k]?=some x:=⟨_,zB Y⟩;obtain⟨b,o,rfl,hb,z⟩:=m.o k x hx;have U:=q79 l.o z;have f2:=hK.cell z U;simp only [yB]at f2;have aj:b<wr.heap.size:=wA
   obtain⟨W1,am,d,u,ad⟩:=qit (P:=prog) (T:=292) (K:=9) (E:=4) Tryz.underlying292 Tryz.underlying9 v x;rw [←qw4 K new hx]at d;have q:=hK.trans u;clear z u hx v ad;refine hd3 ?_ hK d q;clear hK d q;intro g p h;go_wp2_with fail;go_roundw
   case rel=>exact⟨k+1,wA,by go_num,h.o,p.o⟩
   case measure=>simp [intOf];omega
  ·obtain rfl:k=new.length:=by omega
   rw [zi]at v;refine hd2 ?_ hK v;clear hK v;intro g y;go_wp2_with fail;refine xy (yt rfl _ _ _) rfl ?_;exact⟨rfl,y.o,g.o⟩
theorem qba {w:World}{base:Nat}{e:TypeId}{sz n:Nat}{v:Value}{xs:List Value}(h:w.ownsRow base e sz v n xs){b:Nat}(c:v.ownBlock=some b): ∃cs,w.heap[b]?=some (.cells cs e (0,0)):=by
 rcases h.2 with ⟨rfl,_⟩ |⟨g,cap,cur,rfl,_,hg,_⟩
 ·simp [Value.ownBlock]at c
 ·simp [Value.ownBlock]at c;subst c;exact⟨_,hg⟩
theorem qpf (n M:Nat)(K:List ByteArray)(r:RuleD)(sh sb:Value)(i:Nat)(L:LitD)(hL:r.body[i]?=some L)(w:World)(hS:SetIn w M K)(hr:RuleIn n w sh sb r)(hn:n<=w.heap.size):
  Calls prog 211 #[.map (some M),qaq r sh sb,.int .i64 (i:Int)] w fun e w'=> ∃vb vn,e=.returned (.agg #[.int .i64 (i:Int),vb,vn])/\
   w'.ownsRow w.heap.size 3 1 vb (qbh K L i).bound.length ((qbh K L i).bound.map (.int .i64))/\w'.ownsRow w.heap.size 9 1 vn (qbh K L i).new.length ((qbh K L i).new.map .string)/\Keep (fun b=>b<w.heap.size) w w':=by
 obtain⟨⟨pr,args⟩,body⟩:=r;obtain⟨hh,m⟩:=hr;unfold qaq;simp only at hh m hL⊢;have hM:=hS.lt;obtain⟨ah,ch,rfl,-,-,-⟩:=id hh;obtain⟨ab,cb,rfl,cA,cu,bj⟩:=id m;obtain⟨b,o,rfl,cs,sa,ag,aQ⟩:=bj i L hL;obtain⟨aa,ca,rfl,bN,bH,aH⟩:=id aQ;have hi:i<body.length:=(zA.1 hL).1;have cw:(i:Int)<body.length:=wA
 have cv:(0:Int)<=i:=wA
 have ct:b<w.heap.size:=wA
 have b2:b<w.heap.size+1:=wA
 have b3:b<w.heap.size+1+1:=wA
 have d0:=ag 0 _ rfl;have d1:=ag 1 _ rfl;have d2:=ag 2 _ rfl;have d3:=ag 3 _ rfl;have d4:=ag 4 _ rfl;have d5:=ag 5 _ rfl;have d6:=ag 6 _ rfl;simp only [Nat.add_zero]at d0;clear ag hh m hL;obtain⟨kd,⟨bm,c⟩,⟨lv,lt⟩,⟨rv,rt⟩⟩:=L;simp only at d0 d1 d2 d3 d4 d5 d6 aQ bN bH aH⊢;by_cases h3:kd=3
 ·have hE:qbh K ⟨kd,⟨bm,c⟩,⟨lv,lt⟩,⟨rv,rt⟩⟩ i=⟨i,[],[]⟩:=by unfold qbh;rw [zI h3]
  subst h3;rw [hE];clear aQ aH;refine hd2 ?_ hS hE;clear hS hE;intro aV bx
  go_enter Tryz.func211,Tryz.ntmps211
  go_wp2_with fail;refine yA (v:=.agg #[.int .i64 (i:Int),.slice none 0 0,.slice none 0 0]) (by simp [results,Tryz.results211,go_sem]) rfl ?_;exact⟨_,_,rfl,zj _ _ _ _,zj _ _ _ _,((kAl.trans kAl).trans kAl).trans kAl⟩
 ·have hE:qbh K ⟨kd,⟨bm,c⟩,⟨lv,lt⟩,⟨rv,rt⟩⟩ i=⟨i,qbs K c,qb8 K c⟩:=by unfold qbh;rw [zF h3]
  rw [hE];have ho:=fun t W (h:SetIn W M K)=>qpe M K t W h;have cp:(kd==3)=false:=y7.2 h3;clear bj h3;refine hd4 ?_ hS hE aH ho;clear hS hE aH ho;intro aV bx aZ bz
  go_enter Tryz.func211,Tryz.ntmps211
  go_wp2_with fail;refine qlb (fun W=>Keep (fun b=>b<w.heap.size) w W/\W.heap.size=w.heap.size+1+1+1+1/\W.heap[w.heap.size+1]?=some (.cells #[.int .i64 0,.slice none 0 0,.slice none 0 0] 251 (0,0))/\
   W.heap[w.heap.size+1+1]?=some (.cells #[.int .i64 (i:Int),.slice none 0 0,.slice none 0 0] 251 (0,0))) ⟨((kAl.trans kAl).trans kAl).trans kAl,wC,by simp only [qar,zO];simp,by simp only [qar,zO];simp⟩ ?_
  rintro W0 ⟨k0,z0,a1,a2⟩;refine hd3 ?_ k0 a1 a2;clear k0 a1 a2;intro a4 bu bv
  go_loopw [26] (fun i' wr=> ∃(k:Nat) (vb vn:Value),k<=c.length/\i'=.int .i64 (k:Int)/\Keep (fun b=>b<w.heap.size+1+1) W0 wr/\wr.heap[w.heap.size+1+1]?=some (.cells #[.int .i64 (i:Int),vb,vn] 251 (0,0))/\
   wr.ownsRow W0.heap.size 3 1 vb (qbs K (c.take k)).length ((qbs K (c.take k)).map (.int .i64))/\wr.ownsRow W0.heap.size 9 1 vn (qb8 K (c.take k)).length ((qb8 K (c.take k)).map .string)) (fun i _=>c.length-(intOf i).toNat)
  case atStart=>exact⟨0,_,_,wA,rfl,Keep.refl _ _,bv.o,zj _ _ _ _,zj _ _ _ _⟩
  case round=>
   obtain⟨k,vb,vn,hk,rfl,hK,hX,au,hon⟩:=hrel;have cC:=hK.size;have cD:=qe hX;by_cases bQ:k<c.length
   ·have b5:(k:Int)<c.length:=by omega
    have cx:(0:Int)<=k:=wA
    obtain⟨x,hx⟩: ∃x,c[k]?=some x:=⟨_,zB bQ⟩;obtain⟨b4,o4,rfl,cr,q0,q1⟩:=aZ.o k x hx;have kw:Keep (fun b=>b<w.heap.size) w wr:=a4.o.trans (hK.mono fun b _ h=>wA);have f0:=kw.cell q0 (show b4<w.heap.size from wA);have f1:=kw.cell q1 (show b4<w.heap.size from wA);have b1:b4<wr.heap.size:=wA
    obtain⟨W1,aG⟩:=ex (wr.alloc (.cells #[.bool x.var,.string x.text] 77));have k1:wE wr W1:=by rw [←aG];exact kAl
    have g1:W1.heap[wr.heap.size]?=some (.cells #[.bool x.var,.string x.text] 77 (0,0)):=by rw [←aG];exact qh _ _
    have cE:=k1.size;have d:=qw3 K c hx;have l:=q20 K c hx;have aJ:=bz.o x W1 (aV.o.keep (kw.trans k1.mt) hM);unfold qcy at aJ;obtain⟨bo,bh⟩: ∃b,qcp K x=b:=⟨_,rfl⟩;rw [bh]at d l aJ;have bK:=ql7 K (c.take k);have bL:=ql8 K (c.take k);rw [yC]at bK bL;clear q0 q1 bh hx;refine qib ?_ hK hX au hon kw aG k1 g1 d l aJ;clear hK hX au hon kw aG k1 g1 d l aJ;intro aO aX U Y cf aW bD bw ap aq a3;go_wp2_with fail;rw [aW.o];refine a3.o.mono ?_;rintro e W2 ⟨rfl,k2⟩;have cF:=k2.size;have an:wE wr W2:=bD.o.trans k2;have ae:=an.heap aX.o trivial;have y:=qf U.o an (fun _ _=>wF);have q:=qf Y.o an (fun _ _=>wF);have cy:w.heap.size+1+1<W2.heap.size:=wA
    have ar:Keep (fun b=>b<w.heap.size+1+1) W0 W2:=aO.o.trans an.mt;have af: ∀b,(Value.ownBlock vb=some b∨Value.ownBlock vn=some b)->b≠w.heap.size+1+1:=fun b m=>by
     rcases m with m |m
     ·have:=(zE U.o b m).1;omega
     ·have:=(zE Y.o b m).1;omega
    have d:=ap.o;have l:=aq.o;have c1:=qb ae 1 _ rfl;have c2:=qb ae 2 _ rfl;simp only [zD]at c1 c2;cases bo
    ·simp only [zz,yy]at d l;obtain⟨v',W3,al,R,z,g,cap,aR,bI,bk⟩:=qc3 (P:=prog) q78 125 y [.int .i64 (k:Int)] rfl (by simp [Value.oneCell']) wA wA;subst aR;have p:=z.heap ae (fun e=>af _ (.inl e.symm) rfl);have aS:=qf q z (fun b m e=>by
      obtain⟨c1,t1⟩:=qba y e.symm;obtain⟨c2,t2⟩:=qba q m;rw [t1]at t2;cases t2)
     have d1:=qb p 1 _ rfl;have bG:=qg p 1;simp only [zD]at d1;have bM:=qe p;have aj:Keep (fun b=>b<w.heap.size+1+1) W0 (W3.setCell ⟨w.heap.size+1+1,1,none⟩ (.slice (some ⟨g,0,none⟩) ((qbs K (c.take k)).length+1) cap)):=
      (ar.trans (z.mono fun b m h e=>by have:=(zE y b e.symm).1;omega)).trans (kSc)
     have kS:Keep (fun b=>b≠w.heap.size+1+1) W3 (W3.setCell ⟨w.heap.size+1+1,1,none⟩ (.slice (some ⟨g,0,none⟩) ((qbs K (c.take k)).length+1) cap)):=kSc;have s:=qaj 1 (.slice (some ⟨g,0,none⟩) ((qbs K (c.take k)).length+1) cap) p;have ao:=qf R kS (fun b m=>by have:=(zE R b m).1;omega);have ai:=qf aS kS (fun b m=>by have:=(zE aS b m).1;omega);rw [show(qbs K (c.take k)).map (Value.int .i64)++ [Value.int .i64 (k:Int)]=(qbs K (c.take (k+1))).map (.int .i64) from by rw [d,zn];rfl,show(qbs K (c.take k)).length+1=(qbs K (c.take (k+1))).length from by rw [d,zR];rfl]at ao;rw [←l]at ai;rw [show(qbs K (c.take k)).length+1=(qbs K (c.take (k+1))).length from by rw [d,zR];rfl]at s aj al;simp only [yK,set_cons_succ,set_cons_zero]at s;obtain⟨W4,ad⟩:=ex (W3.setCell ⟨w.heap.size+1+1,1,none⟩ (.slice (some ⟨g,0,none⟩) (qbs K (c.take (k+1))).length cap));rw [show(qbs K (c.take k)).length+1=(qbs K (c.take (k+1))).length from by rw [d,zR];rfl]at ai;rw [ad]at s aj ao ai;clear kS k2 an y q R z aS p ae af ar;refine hd8 ?_ al s aj ao ai d l ad;clear al s aj ao ai d l ad;intro aA ay aw aB aC ap aq ax;go_wp2_with (at_builtin;refine qbo (v:=vb) (u:=.slice (some ⟨W2.heap.size,0,none⟩) 1 1) (v':=.slice (some ⟨g,0,none⟩) (qbs K (c.take (k+1))).length cap) (w':=W3) rfl (.tmp 36) (.tmp 38) 125 rfl rfl rfl aA.o ?_);rw [ax.o];go_roundw
     case rel=>exact⟨k+1,_,_,wA,by go_num,aw.o,ay.o,aB.o,aC.o⟩
     case measure=>simp [intOf];omega
    ·simp only [yg,yP]at d l;have aE:=quv W2.heap.size vn (qb8 K (c.take k)) x.text W2 (qbj q wA) (zG _);have aI:=k2.heap bw.o trivial;have t1:=qb aI 1 _ rfl;simp only [zD]at t1;obtain⟨bi,aD⟩: ∃b,decide (x.text∈qb8 K (c.take k))=b:=⟨_,rfl⟩;rw [aD]at aE;have cz:wr.heap.size<W2.heap.size:=qe aI;cases bi
     ·have ak: ¬x.text∈qb8 K (c.take k):=xT aD;rw [zF ak]at l;obtain⟨v',W3,al,R,z,g,cap,aR,bI,bk⟩:=qc3 (P:=prog) qrp 60 q [.string x.text] rfl (by simp [Value.oneCell']) wA wA;subst aR;have p:=z.heap ae (fun e=>af _ (.inr e.symm) rfl);have aK:=qf y z (fun b m e=>by
       obtain⟨c1,t1⟩:=qba q e.symm;obtain⟨c2,t2⟩:=qba y m;rw [t1]at t2;cases t2)
      have d1:=qb p 2 _ rfl;have bG:=qg p 2;simp only [zD]at d1;have bM:=qe p;have bO:(qb8 K (c.take k)).length+1=(qb8 K (c.take (k+1))).length:=by rw [l,zR];rfl
      rw [bO]at al R;rw [show(qb8 K (c.take k)).map Value.string++ [Value.string x.text]=(qb8 K (c.take (k+1))).map .string from by rw [l,zn];rfl]at R;rw [←d]at aK;obtain⟨W4,ad⟩:=ex (W3.setCell ⟨w.heap.size+1+1,2,none⟩ (.slice (some ⟨g,0,none⟩) (qb8 K (c.take (k+1))).length cap));have kS:Keep (fun b=>b≠w.heap.size+1+1) W3 W4:=by rw [←ad];exact kSc
      have aj:Keep (fun b=>b<w.heap.size+1+1) W0 W4:=
       (ar.trans (z.mono fun b m h e=>by have:=(zE q b e.symm).1;omega)).trans (kS.mono fun b _ h=>wA)
      have s:=qaj 2 (.slice (some ⟨g,0,none⟩) (qb8 K (c.take (k+1))).length cap) p;have ai:=qf R kS (fun b m=>by have:=(zE R b m).1;omega);have ao:=qf aK kS (fun b m=>by have:=(zE aK b m).1;omega);rw [ad]at s;simp only [yK,set_cons_succ,set_cons_zero]at s;clear kS k2 an y q R z aK p ae af ar aD aI;refine qdx ?_ al s aj ao ai d l ad aE ak;clear al s aj ao ai d l ad aE ak;intro aA ay aw aB aC ap aq ax az a0;go_wp2_with fail;refine az.o.mono ?_;rintro e w9 ⟨rfl,am⟩;have am:=am.symm;subst am;go_wp2_with (at_builtin;refine qbo (v:=vn) (u:=.slice (some ⟨W2.heap.size,0,none⟩) 1 1) (v':=.slice (some ⟨g,0,none⟩) (qb8 K (c.take (k+1))).length cap) (w':=W3) rfl (.tmp 48) (.tmp 51) 60 rfl rfl rfl aA.o ?_);rw [ax.o];go_roundw
      case rel=>exact⟨k+1,_,_,wA,by go_num,aw.o,ay.o,aB.o,aC.o⟩
      case measure=>simp [intOf];omega
     ·have ak:x.text∈qb8 K (c.take k):=yE aD;rw [zI ak]at l;rw [←d]at y;rw [←l]at q;clear k2 an af aD aI;refine hd8 ?_ ae y q ar d l aE ak;clear ae y q ar d l aE ak;intro aY a5 a6 aU ap aq az a0;go_wp2_with fail;refine az.o.mono ?_;rintro e w9 ⟨rfl,am⟩;have am:=am.symm;subst am;go_wp2_with fail;go_roundw
      case rel=>exact⟨k+1,_,_,wA,by go_num,aU.o,aY.o,a5.o,a6.o⟩
      case measure=>simp [intOf];omega
   ·obtain rfl:k=c.length:=by omega
    rw [zi]at au hon;have hR:=hK.heap bu.o (show w.heap.size+1<w.heap.size+1+1 from wA);have c0:=qb hX 0 _ rfl;have c1:=qb hX 1 _ rfl;have c2:=qb hX 2 _ rfl;have e0:=qb hR 0 _ rfl;have e1:=qb hR 1 _ rfl;have e2:=qb hR 2 _ rfl;have e3:=qg hR 0;have e4:=qg hR 1;have e5:=qg hR 2;simp only [zD]at c0 c1 c2 e0 e1 e2;have bP:w.heap.size+1<wr.heap.size:=wA
    obtain⟨a7,bb,rfl⟩:=qi au;obtain⟨a8,bc,rfl⟩:=qi hon;refine hd5 ?_ hK hX au hon hR;clear hK hX au hon hR;intro aO aX U Y ce;go_wp2_with fail;refine yA (v:=.agg #[.int .i64 (i:Int),.slice a7 (qbs K c).length bb,.slice a8 (qb8 K c).length bc]) (by simp [results,Tryz.results211,go_sem,e0,e1,e2,bP]) rfl ?_;have kS:Keep (fun b=>b≠w.heap.size+1) wr (((wr.setCell ⟨w.heap.size+1,0,none⟩ (.int .i64 (i:Int))).setCell ⟨w.heap.size+1,1,none⟩ (.slice a7 (qbs K c).length bb)).setCell ⟨w.heap.size+1,2,none⟩ (.slice a8 (qb8 K c).length bc)):=
     ((kSc).trans (kSc)).trans (kSc)
    exact⟨_,_,rfl,(qf U.o kS (fun b m=>by have:=(zE U.o b m).1;omega)).mono wA,(qf Y.o kS (fun b m=>by have:=(zE Y.o b m).1;omega)).mono wA,
     (a4.o.trans (aO.o.mono fun b _ h=>wA)).trans (kS.mono fun b _ h=>wA)⟩
def qjo (ts:List TermD):List ByteArray:=qa9 ((ts.filter (·.var)).map (·.text))
theorem q0f (K:List ByteArray)(ts:List TermD):(qjo ts).all (fun x=>decide (x∈K))=!ts.any (qcp K):=by
 rw [yu,yM,xJ,xZ];unfold qjo qcp;simp only [qr9,yL,yV,zT,zV,xJ,yQ,not_and,Classical.not_not];constructor
 ·intro h t b c;exact h _ ⟨t,⟨b,c⟩,rfl⟩
 ·rintro h x ⟨t,⟨b,c⟩,rfl⟩;exact h t b c
def quw (K vs:List ByteArray):List ByteArray:=vs.filter fun x=>!decide (x∈K)
theorem qw5 (p:ByteArray->Bool)(l:List ByteArray):qa9 (l.filter p)=(qa9 l).filter p:=by
 have h: ∀n,∀l:List ByteArray,l.length=n->qa9 (l.filter p)=(qa9 l).filter p:=by
  intro n
  induction n with
  |zero=>intro l e;have:=yo e;subst this;rfl
  |succ n ih=>
   intro l e;obtain⟨x,m⟩: ∃x,l[n]?=some x:=⟨_,zB wA⟩;have g:l=l.take n++ [x]:=by
    have:=zh (l:=l) (i:=n);rw [m,yx wA]at this;exact this
   have c:=ih (l.take n) (by rw [yC];omega);rw [g,yT,qic];by_cases b:p x=true
   ·rw [show [x].filter p= [x]from by simp [b],qic,c];by_cases d:x∈qa9 (l.take n)
    ·rw [zI d,zI (yV.2 ⟨d,b⟩)]
    ·rw [zF d,zF (fun h=>d (yV.1 h).1),yT];simp [b]
   ·rw [show [x].filter p= []from by simp [b],yP,c];split
    ·rfl
    ·rw [yT];simp [b]
 exact h _ l rfl
theorem q21 (K:List ByteArray)(ts:List TermD):quw K (qjo ts)=qb8 K ts:=by
 unfold quw qjo qb8 qcp;rw [←qw5]
 congr 1
 rw [filter_map]
 congr 1
 rw [filter_filter]
 congr 1
 funext t
 simp only [Function.comp];cases t.var<;>simp
theorem q22 {K:List ByteArray}{ts:List TermD}{x:ByteArray}(h:x∈qb8 K ts):x∉K:=by
 unfold qb8 at h;rw [qr9]at h;simp only [yL,yV,qcp,zV,xJ,yQ]at h;obtain⟨t,⟨_,_,h⟩,rfl⟩:=h;exact h
theorem q23: ∀(new K:List ByteArray),new.Nodup->(∀x,x∈new->x∉K)->qdb K new=K++new:=by
 intro new
 induction new with
 |nil=>intro K _ _;simp [qdb]
 |cons x r ih=>
  intro K b c;rw [xS]at b;unfold qdb;rw [foldl_cons,zF (c x wC)];have:=ih (K++ [x]) b.2 (fun y d e=>by
   rcases zr.1 e with h |h
   ·exact c y (by simp [d]) h
   ·simp only [zm]at h;subst h;exact b.1 d)
  unfold qdb at this;rw [this];simp
theorem q0g (K:List ByteArray)(L:LitD)(i:Int):qdb K (qbh K L i).new=K++(qbh K L i).new:=by
 unfold qbh;split
 ·simp [qdb]
 ·exact q23 _ _ (qk4 _) (fun x b=>q22 b)
end Go.Proofs.P16
namespace Go.Flt
open Ieee
abbrev D:=Ieee.double
theorem qsm:D.binade=4503599627370496:=wD
theorem q24:D.infRung=9218868437227405312:=wD
theorem q8a:D.signWeight=9223372036854775808:=wD
theorem qux:D.leastPlace= -1074:=wD
theorem q8b:(D.fractionBits:Int)=52:=wD
def rne (n g:Nat):Nat:=n/g+(decide (g<2*(n%g)) ||(g==2*(n%g)&&n/g%2==1)).toNat
theorem q9d (s:Bool)(n d:Nat):Toward.even.cut s n d=rne n (2^d):=by
 unfold Toward.cut rne;simp only [Nat.one_shiftLeft];by_cases h:d<=n.log2+2
 ·rw [xQ h]
 ·rw [Nat.min_eq_right wA];have b:n<2^(n.log2+1):=Nat.lt_log2_self;have c:2*2^(n.log2+1)=2^(n.log2+2):=by rw [Nat.pow_succ 2 (n.log2+1)];omega
  have e:2^(n.log2+2)<=2^d:=Nat.pow_le_pow_right wA wA;rw [Nat.div_eq_of_lt (show n<2^(n.log2+2) from wA),Nat.div_eq_of_lt (show n<2^d from wA),Nat.mod_eq_of_lt (show n<2^(n.log2+2) from wA),Nat.mod_eq_of_lt (show n<2^d from wA)];rw [zM wA,zM wA,y7.2 (show(2^(n.log2+2))≠2*n from wA),y7.2 (show(2^d)≠2*n from wA)]
theorem qpg {n1 c n2 d:Nat}(l:0<c)(q:0<d)(h:n1*d<=n2*c):rne n1 c<=rne n2 d:=by
 have m:=Nat.div_add_mod n1 c;have p:=Nat.div_add_mod n2 d;have v:=Nat.mod_lt n1 l;have x:=Nat.mod_lt n2 q;unfold rne;generalize hq1:n1/c=q1 at*;generalize hq2:n2/d=q2 at*;generalize hm1:n1%c=m1 at*;generalize hm2:n2%d=m2 at*;have s: ∀b:Bool,b.toNat<=1:=fun b=>by cases b<;>simp
 have t:q1<=q2:=by
  rcases yY q2 q1 with hlt |hge
  ·exfalso;have g:(q2+1)*c*d<=n1*d:=yW _ (by
    rw [←m];have:=Nat.mul_le_mul_left c (show q2+1<=q1 from hlt);rw [xL (q2+1) c];omega)
   have a2:n2*c<(q2+1)*c*d:=by
    have:n2<(q2+1)*d:=by rw [←p,xI,xL q2 d];omega
    have:=Nat.mul_lt_mul_of_pos_right this l;rw [Nat.mul_right_comm]at this;exact this
   omega
  ·exact hge
 rcases yY q1 q2 with hlt |hge
 ·have:=s (decide (c<2*m1) ||(c==2*m1&&q1%2==1));omega
 ·obtain rfl:q1=q2:=by omega
  have u:m1*d<=m2*c:=by
   rw [←m,←p,xI,xI]at h;have:c*q1*d=d*q1*c:=by rw [Nat.mul_right_comm,xL c d,Nat.mul_right_comm]
   omega
  refine Nat.add_le_add_left ?_ _;cases e:(decide (c<2*m1) ||(c==2*m1&&q1%2==1)) with
  |false=>simp
  |true=>
   have key:(decide (d<2*m2) ||(d==2*m2&&q1%2==1))=true:=by
    simp only [y8,zV,zT,xC]at e⊢;rcases e with e |⟨e,ho⟩
    ·left;have g:c*d<2*m1*d:=Nat.mul_lt_mul_of_pos_right e q
     have a2:d*c<2*m2*c:=by
      rw [xL d c,yc 2 m2 c];rw [yc]at g;omega
     exact Nat.lt_of_mul_lt_mul_right a2
    ·have g:c*d=2*m1*d:=by rw [←e]
     have a2:d*c<=2*m2*c:=by
      rw [xL d c,yc 2 m2 c];rw [yc]at g;omega
     have a3:=Nat.le_of_mul_le_mul_right a2 l;rcases yY d (2*m2) with hl |hg
     ·exact .inl hl
     ·exact .inr ⟨wA,ho⟩
   rw [key];exact zG _
theorem qkq (k:Nat){g:Nat}(h:0<g):rne (k*g) g=k:=by
 unfold rne;rw [Nat.mul_div_cancel _ h,Nat.mul_mod_left];rw [zM wA,y7.2 wA]
 rfl
theorem q9e {n g k:Nat}(h:0<g)(b:n<=k*g):rne n g<=k:=by
 have:=qpg (n1:=n) (n2:=k*g) h h (yW _ b)
 rwa [qkq k h] at this
theorem q9f {n g k:Nat}(h:0<g)(b:k*g<=n):k<=rne n g:=by
 have:=qpg (n1:=k*g) (n2:=n) h h (yW _ b)
 rwa [qkq k h] at this
def qh0 (m:Nat)(p:Int):Nat:=D.nearest false m p
def qdj (m:Nat)(p:Int):Int:=max (p+m.log2-52) (-1074)
theorem qog {m:Nat}(p:Int)(h:m≠0):qh0 m p=min ((qdj m p+1074).toNat*4503599627370496+rne (m*2^(p-qdj m p).toNat) (2^(qdj m p-p).toNat)) 9218868437227405312:=by
 unfold qh0 Format.nearest;rw [zF h];simp only [qsm,q24,qux,q8b,q9d,Nat.shiftLeft_eq];unfold Format.word qdj;simp only [zz,yy]
 rfl
theorem qnn (p:Int):qh0 0 p=0:=rfl
theorem q6a (m:Nat)(p:Int):qh0 m p<=9218868437227405312:=by
 by_cases h:m=0
 ·subst h;rw [qnn];decide
 ·rw [qog p h];exact Nat.min_le_right _ _
theorem qfv (k:Nat):0<2^k:=Nat.two_pow_pos k
theorem q25 {m:Nat}(h:m≠0):2^m.log2<=m:=Nat.log2_self_le h
theorem qqo (m:Nat):m<2^(m.log2+1):=Nat.lt_log2_self
theorem q26 {m1 m2 a b:Nat}(c:m1≠0)(d:m2≠0)(h:m1*2^a<=m2*2^b):m1.log2+a<=m2.log2+b:=by
 have e:2^(m1.log2+a)<=m1*2^a:=by rw [yp];exact yW _ (q25 c)
 have g:m2*2^b<2^(m2.log2+1+b):=by rw [yp];exact Nat.mul_lt_mul_of_pos_right (qqo m2) (qfv b)
 have:=(Nat.pow_lt_pow_iff_right (show 1<2 from wA)).1 (show 2^(m1.log2+a)<2^(m2.log2+1+b) from wA);omega
theorem qph {m1 m2 a b c d:Nat}(h:m1*2^a<=m2*2^b)(e:a+d=b+c):m1*2^c<=m2*2^d:=by
 have g:m1*2^c*2^b<=m2*2^d*2^b:=by
  rw [yc,←yp,yc,←yp,show c+b=a+d from wA,show d+b=b+d from wA,yp,yp,←yc,←yc];exact yW _ h
 exact Nat.le_of_mul_le_mul_right g (qfv b)
theorem q27 (e c d g l:Nat)(h:c<=d)(m:c<d->g<=2*e/\e<=l)(p:c=d->g<=l):c*e+g<=d*e+l:=by
 rcases yY c d with hl |hg
 ·obtain⟨a,b⟩:=m hl;have:=yW e (show c+1<=d from hl);rw [xI]at this;omega
 ·obtain rfl:c=d:=by omega
  have:=p rfl;omega
theorem q28 (a b:Nat)(c:0<b)(h:b<=a):(a/b-1)*b+(b+a%b)=a:=by
 have hd:=Nat.div_add_mod a b;have d:1<=a/b:=(Nat.le_div_iff_mul_le c).2 wA;have:=Nat.succ_mul (a/b-1) b;rw [show(a/b-1).succ=a/b from wA,xL]at this;omega
theorem q9g {m1:Nat}{p1 b e:Int}(c:b=qdj m1 p1)(d:b<e)(g:m1≠0):rne (m1*2^(p1-b).toNat) (2^(b-p1).toNat)<=2*2^52:=by
 refine q9e (qfv _) ?_;have:m1*2^(p1-b).toNat<=2^(m1.log2+1+(p1-b).toNat):=by rw [yp];exact yW _ (Nat.le_of_lt (qqo m1))
 refine zW this ?_;rw [←Nat.pow_add_one',←yp];refine Nat.pow_le_pow_right wA ?_;unfold qdj at c;omega
theorem q9h {m2:Nat}{p2 d b:Int}(c:b=qdj m2 p2)(g: -1074<=d)(h:d<b)(e:m2≠0):2^52<=rne (m2*2^(p2-b).toNat) (2^(b-p2).toNat):=by
 refine q9f (qfv _) ?_;have:2^(m2.log2+(p2-b).toNat)<=m2*2^(p2-b).toNat:=by rw [yp];exact yW _ (q25 e)
 refine zW ?_ this;rw [←yp];refine Nat.pow_le_pow_right wA ?_;unfold qdj at c;omega
theorem b52:2^52=4503599627370496:=wD
theorem qja {m1 m2:Nat}{p1 p2 K:Int}(z:K<=p1)(R:K<=p2)(h:m1*2^(p1-K).toNat<=m2*2^(p2-K).toNat):qh0 m1 p1<=qh0 m2 p2:=by
 by_cases q:m1=0
 ·subst q;rw [qnn];exact ya _
 by_cases s:m2=0
 ·subst s;exfalso;have:0<m1*2^(p1-K).toNat:=Nat.mul_pos wA (qfv _);omega
 have y:=q26 q s h;rw [qog p1 q,qog p2 s,←b52];have t:qdj m1 p1<=qdj m2 p2:=by unfold qdj;omega
 have g: -1074<=qdj m1 p1:=by unfold qdj;omega
 obtain⟨m,d⟩: ∃l,l=qdj m1 p1:=⟨_,rfl⟩;obtain⟨p,e⟩: ∃l,l=qdj m2 p2:=⟨_,rfl⟩;rw [←d]at t g;rw [←e]at t;rw [←d,←e];have x:=q27 (2^52) (m+1074).toNat (p+1074).toNat (rne (m1*2^(p1-m).toNat) (2^(m-p1).toNat)) (rne (m2*2^(p2-p).toNat) (2^(p-p2).toNat)) wA
  (fun v=>⟨q9g d (show m<p from wA) q,q9h e g wA s⟩)
  (fun u=>by
   obtain rfl:m=p:=wA
   refine qpg (qfv _) (qfv _) ?_;rw [yc,yc,←yp,←yp];exact qph h wA)
 exact(fun(a b c:Nat) (h:a<=b)=>(by omega:min a c<=min b c)) _ _ _ x
def mg (a:Nat):Nat:=if a<4503599627370496 then a else 4503599627370496+a%4503599627370496
def sh (a:Nat):Nat:=if a<4503599627370496 then 0 else a/4503599627370496-1
theorem qjt {a:Nat}(h:a<9218868437227405312):D.read a=.number false (mg a) (-1074+sh a):=by
 unfold Format.read;simp only [qsm,q24,q8a,qux];rw [Nat.mod_eq_of_lt (show a<9223372036854775808 from wA),Nat.div_eq_of_lt (show a<9223372036854775808 from wA)];unfold mg sh;by_cases b:a<4503599627370496
 ·simp only [b,yg];rfl
 ·simp only [b,h,yg,yy]
  rfl
theorem qlg {a:Nat}(h:0<a):mg a≠0:=by unfold mg;split<;>omega
theorem quy {a:Nat}:(mg a).log2<=52:=by
 have:mg a<2^53:=by
  unfold mg;have:=Nat.mod_lt a (show 0<4503599627370496 from wD);split<;>omega
 by_cases b:mg a=0
 ·rw [b];decide
 ·have:=(Nat.log2_lt b).2 this;omega
theorem qno {a:Nat}(h:a<9218868437227405312):qh0 (mg a) (-1074+sh a)=a:=by
 by_cases s:a=0
 ·subst s;decide
 rw [qog _ (qlg wA)];have b:=quy (a:=a);by_cases d:a<4503599627370496
 ·have c:mg a=a:=by unfold mg;rw [zI d]
  have e:sh a=0:=by unfold sh;rw [zI d]
  rw [c]at b⊢;rw [e];have l:qdj a (-1074+(0:Nat))= -1074:=by unfold qdj;omega
  rw [l];have:=qkq a (g:=1) wA;simp only [yB]at this;simp [this];omega
 ·have c:mg a=4503599627370496+a%4503599627370496:=by unfold mg;rw [zF d]
  have e:sh a=a/4503599627370496-1:=by unfold sh;rw [zF d]
  have m:(mg a).log2=52:=by
   have:52<=(mg a).log2:=(Nat.le_log2 wA).2 (by rw [c];omega);omega
  have l:qdj (mg a) (-1074+(sh a:Nat))= -1074+(sh a:Nat):=by unfold qdj;omega
  rw [l];have p:=qkq (mg a) (g:=1) wA;simp only [Int.sub_self,Int.toNat_zero,Nat.pow_zero,yB]at p⊢;have q:((-1074+(sh a:Int))+1074).toNat=sh a:=wA
  rw [p,q,c,e,q28 a 4503599627370496 wD wA];exact xQ (Nat.le_of_lt h)
def V (a:Nat):Nat:=mg a*2^sh a
theorem q92 {a:Nat}(h:0<a):0<V a:=Nat.mul_pos (by have:=qlg h;omega) (qfv _)
theorem q9i:V 0=0:=wD
theorem q8c {a b:Nat}(c:a<9218868437227405312)(d:b<9218868437227405312)(h:V a<=V b):a<=b:=by
 have:=qja (m1:=mg a) (m2:=mg b) (p1:= -1074+(sh a:Int)) (p2:= -1074+(sh b:Int)) (K:= -1074) wA wA (by
  rw [show(-1074+(sh a:Int)- -1074).toNat=sh a from wA,show(-1074+(sh b:Int)- -1074).toNat=sh b from wA];exact h)
 rwa [qno c,qno d] at this
theorem q6b {a b:Nat}(c:b<9218868437227405312)(h:a<b):V a<V b:=by
 rcases yY (V a) (V b) with hl |hg
 ·exact hl
 ·have:=q8c c wA hg;omega
theorem q6c {a b:Nat}(c:b<9218868437227405312)(h:a<=b):V a<=V b:=by
 rcases yY a b with hl |hg
 ·exact Nat.le_of_lt (q6b c hl)
 ·obtain rfl:a=b:=by omega
  exact zG _
theorem q8d (x y:Nat)(a b:Nat)(c:a<b->x<y)(d:b<a->y<x)(e:a=b->x=y):compare (x:Int) (y:Int)=compare a b:=by
 simp only [compare,compareOfLessAndEq];rcases Nat.lt_trichotomy a b with h |h |h
 ·rw [zI h,zI (by have:=c h;omega)]
 ·have:=e h;rw [zF (show ¬(x:Int)<y from wA),zI (show(x:Int)=y from wA),zF (show ¬a<b from wA),zI h]
 ·have:=d h;rw [zF (show ¬(x:Int)<y from wA),zF (show ¬(x:Int)=y from wA),zF (show ¬a<b from wA),zF (show ¬a=b from wA)]
theorem q7b (m i k:Nat):m*2^(i-k)*2^k=m*2^(i-k+k):=by rw [yc,←yp]
theorem quz {a b:Nat}(c:a<9218868437227405312)(d:b<9218868437227405312):D.order a b=some (compare a b):=by
 unfold Format.order;rw [qjt c,qjt d];unfold Datum.order signed;simp only [zz,yy,Nat.shiftLeft_eq];obtain⟨k,q⟩: ∃k,k=min (sh a) (sh b):=⟨_,rfl⟩;have l:(-1074+(sh a:Int)-min (-1074+(sh a:Int)) (-1074+(sh b:Int))).toNat=sh a-k:=wA
 have m:(-1074+(sh b:Int)-min (-1074+(sh a:Int)) (-1074+(sh b:Int))).toNat=sh b-k:=wA
 rw [l,m];have e:V a=mg a*2^(sh a-k)*2^k:=by rw [q7b];unfold V;rw [show sh a-k+k=sh a from wA]
 have g:V b=mg b*2^(sh b-k)*2^k:=by rw [q7b];unfold V;rw [show sh b-k+k=sh b from wA]
 have p:=qfv k;refine yN some (q8d _ _ _ _ (fun h=>?_) (fun h=>?_) (fun h=>?_))
 ·have:=q6b d h;rw [e,g]at this;exact Nat.lt_of_mul_lt_mul_right this
 ·have:=q6b c h;rw [e,g]at this;exact Nat.lt_of_mul_lt_mul_right this
 ·subst h;rfl
def qf9 (a b:Nat):Nat:=(D.mul a b).getD 0
def qig (a b:Nat):Nat:=(D.div a b).getD 0
def qgu (n:Int):Nat:=FloatKind.f64.nearest n
theorem qu0 {a b:Nat}(c:a<9218868437227405312)(d:b<9218868437227405312):D.mul a b=some (qh0 (mg a*mg b) (-1074+sh a+(-1074+sh b))):=by
 unfold Format.mul;rw [qjt c,qjt d]
 rfl
theorem q9j {a b:Nat}(c:a<9218868437227405312)(d:b<9218868437227405312):D.mul a b=some (qf9 a b):=by
 unfold qf9;rw [qu0 c d]
 rfl
theorem qnp {a b:Nat}(c:a<9218868437227405312)(d:b<9218868437227405312):qf9 a b=qh0 (mg a*mg b) (-1074+sh a+(-1074+sh b)):=by
 unfold qf9;rw [qu0 c d]
 rfl
theorem q6d {a b:Nat}(c:a<9218868437227405312)(d:b<9218868437227405312):qf9 a b<=9218868437227405312:=by rw [qnp c d];exact q6a _ _
theorem qsn {a a' b:Nat}(c:a'<9218868437227405312)(d:b<9218868437227405312)(h:a<=a'):qf9 a b<=qf9 a' b:=by
 rw [qnp wA d,qnp c d];refine qja (K:= -1074+(-1074+(sh b:Int))) wA wA ?_;rw [show(-1074+(sh a:Int)+(-1074+(sh b:Int))-(-1074+(-1074+(sh b:Int)))).toNat=sh a from wA,show(-1074+(sh a':Int)+(-1074+(sh b:Int))-(-1074+(-1074+(sh b:Int)))).toNat=sh a' from wA];rw [Nat.mul_right_comm,Nat.mul_right_comm (mg a')];exact yW _ (q6c c h)
theorem qqp {n:Int}(h:0<=n):qgu n=qh0 n.toNat 0:=by
 unfold qgu FloatKind.nearest FloatKind.encode FloatKind.format qh0 Format.write;rw [zM (show ¬n<0 from wA),show n.natAbs=n.toNat from wA]
theorem qnq {n:Int}(h:0<=n)(b:n<=2147483647):qgu n<9218868437227405312:=by
 rw [qqp h];refine Nat.lt_of_le_of_lt (qja (m2:=2147483647) (p2:=0) (K:=0) wA wA ?_) (show qh0 2147483647 0<_ from wD);simp;omega
theorem qso {n:Int}(h:1<=n):4607182418800017408<=qgu n:=by
 rw [qqp wA];refine zW (show 4607182418800017408<=qh0 1 0 from wD) (qja (m1:=1) (p1:=0) (K:=0) wA wA ?_);simp;omega
theorem qu1 {a b:Nat}(d:a<9218868437227405312)(e:b<9218868437227405312)(c:0<b):D.div a b=some (qh0 (2*(mg a*2^(54+(mg b).log2-(mg a).log2)/mg b)+(mg a*2^(54+(mg b).log2-(mg a).log2)%mg b !=0).toNat) (-1074+(sh a:Int)-(-1074+(sh b:Int))-((54+(mg b).log2-(mg a).log2:Nat):Int)-1)):=by
 unfold Format.div;rw [qjt d,qjt e];unfold Datum.quotient;simp only [qlg c,yy,Nat.shiftLeft_eq]
 rfl
theorem q9k {a b:Nat}(d:a<9218868437227405312)(e:b<9218868437227405312)(c:0<b):D.div a b=some (qig a b):=by
 unfold qig;rw [qu1 d e c]
 rfl
theorem qsp {a b:Nat}(d:a<9218868437227405312)(e:b<9218868437227405312)(c:0<b):qig a b=qh0 (2*(mg a*2^(54+(mg b).log2-(mg a).log2)/mg b)+(mg a*2^(54+(mg b).log2-(mg a).log2)%mg b !=0).toNat) (-1074+(sh a:Int)-(-1074+(sh b:Int))-((54+(mg b).log2-(mg a).log2:Nat):Int)-1):=by
 unfold qig;rw [qu1 d e c]
 rfl
theorem q9l {N n T:Nat}(b:0<n)(h:2*N<=n*T):2*(N/n)+(N%n !=0).toNat<=T:=by
 have e:=Nat.div_add_mod N n;by_cases c:N%n=0
 ·rw [c]at e⊢;have:n*(2*(N/n))<=n*T:=by rw [Nat.mul_left_comm];omega
  have:=Nat.le_of_mul_le_mul_left this b
  simpa using this
 ·have:n*(2*(N/n))<n*T:=by rw [Nat.mul_left_comm];omega
  have:=Nat.lt_of_mul_lt_mul_left this;have d:(N%n !=0).toNat<=1:=by cases (N%n !=0)<;>simp
  omega
theorem qyg {a b c:Nat}(x:a<9218868437227405312)(y:b<9218868437227405312)(R:c<9218868437227405312)(q:0<b)(u:Nat)(hu:u=1074)(h:V a*2^u<=V b*V c):qig a b<=c:=by
 by_cases s:a=0
 ·subst s;rw [qsp x y q];have:mg 0=0:=by decide
  rw [this];simp only [Nat.zero_mul,Nat.zero_div,Nat.zero_mod,Nat.mul_zero,bne_self_eq_false,Bool.toNat_false,Nat.add_zero,qnn];exact ya _
 have v:=qlg (a:=a) wA;have m:=qlg q;have t:0<c:=by
  rcases Nat.eq_zero_or_pos c with l |l
  ·exfalso;rw [l,q9i,Nat.mul_zero]at h;have:=Nat.mul_pos (q92 (a:=a) wA) (qfv u);omega
  ·exact l
 have p:=qlg t;have l:mg a*2^(sh a+u)<=(mg b*mg c)*2^(sh b+sh c):=by
  unfold V at h;have e:mg b*mg c*2^(sh b+sh c)=mg b*2^sh b*(mg c*2^sh c):=by
   rw [yp,yc,yc,Nat.mul_left_comm (mg c)]
  rw [e,yp,←yc];exact h
 have Y:(mg a).log2+(sh a+u)<=(mg b).log2+(mg c).log2+1+(sh b+sh c):=by
  have ht:=q26 v (Nat.mul_ne_zero m p) l;have:(mg b*mg c).log2<(mg b).log2+1+((mg c).log2+1):=by
   refine(Nat.log2_lt (Nat.mul_ne_zero m p)).2 ?_;rw [yp];exact Nat.mul_lt_mul_of_lt_of_le (qqo _) (Nat.le_of_lt (qqo _)) (qfv _)
  omega
 have la:=quy (a:=a);have lc:=quy (a:=c);rw [qsp x y q];obtain⟨more,g⟩: ∃k,54+(mg b).log2-(mg a).log2=k:=⟨_,rfl⟩;rw [g];have U: -1074+(sh a:Int)-(-1074+(sh b:Int))-(more:Int)-1<= -1074+(sh c:Int):=wA
 have:=qja (m1:=2*(mg a*2^more/mg b)+(mg a*2^more%mg b !=0).toNat) (m2:=mg c) (p1:= -1074+(sh a:Int)-(-1074+(sh b:Int))-(more:Int)-1) (p2:= -1074+(sh c:Int)) (Int.le_refl _) U (by
  rw [Int.sub_self,Int.toNat_zero,Nat.pow_zero,yB];refine q9l wA ?_;have:=qph (c:=more+1) (d:=(-1074+(sh c:Int)-(-1074+(sh a:Int)-(-1074+(sh b:Int))-(more:Int)-1)).toNat) l wA;have z:2*(mg a*2^more)=mg a*2^(more+1):=by rw [Nat.pow_succ,xL (2^more) 2,Nat.mul_left_comm]
  rw [z,←yc];exact this)
 rwa [qno R] at this
theorem q93 (u:Nat)(d:u=1074):V 4607182418800017408=2^u:=by
 have b:mg 4607182418800017408=2^52:=wD
 have c:sh 4607182418800017408=1022:=wD
 unfold V;rw [b,←yp,show 52+sh 4607182418800017408=u from wA]
theorem qnr {a b:Nat}(c:a<9218868437227405312)(d:b<9218868437227405312)(g:4607182418800017408<=b):qig a b<=a:=by
 obtain⟨u,e⟩: ∃u:Nat,u=1074:=⟨_,rfl⟩;refine qyg c d c wA u e ?_;have:=q6c d g;rw [q93 u e]at this;rw [xL];exact yW _ this
def cap (a:Nat):Nat:=if a<=9094988921128908188 then a else 9094988921128908188
theorem q29 {a:Nat}(h:a<=9218868437227405312):D.order a 9094988921128908188=some (compare a 9094988921128908188):=by
 rcases yY a 9218868437227405312 with hl |hg
 ·exact quz hl wD
 ·obtain rfl:a=9218868437227405312:=by omega
  decide
theorem q3a (a:Nat):cap a<=9094988921128908188:=by unfold cap;split<;>omega
def qqq (a:Nat):Nat:=qig (qf9 a 4621256167635550208) 4621819117588971520
theorem qu2 {a:Nat}(h:a<=9094988921128908188):qf9 a 4621256167635550208<9218868437227405312:=
 Nat.lt_of_le_of_lt (qsn (a':=9094988921128908188) wD wD h) (by decide+kernel)
theorem q3b {a:Nat}(h:a<=9094988921128908188):qqq a<=9094988921128908188:=by
 obtain⟨u,p⟩: ∃u:Nat,u=1074:=⟨_,rfl⟩;refine qyg (qu2 h) wD wD wD u p ?_;have m:=q6c (b:=qf9 9094988921128908188 4621256167635550208) (by decide+kernel) (qsn (a':=9094988921128908188) (b:=4621256167635550208) wD wD h);refine zW (yW _ m) ?_;have e:mg (qf9 9094988921128908188 4621256167635550208)=7565482232153168:=by decide+kernel
 have q:sh (qf9 9094988921128908188 4621256167635550208)=2021:=by decide+kernel
 have g:mg 4621819117588971520=5629499534213120:=wD
 have s:sh 4621819117588971520=1025:=wD
 have l:mg 9094988921128908188=6724873095247260:=wD
 have t:sh 9094988921128908188=2018:=wD
 have:=qph (m1:=7565482232153168) (m2:=5629499534213120*6724873095247260) (a:=52) (b:=0) (c:=sh (qf9 9094988921128908188 4621256167635550208)+u) (d:=sh 4621819117588971520+sh 9094988921128908188) (by decide+kernel) wA;unfold V;rw [e,g,l];rw [yp,←yc,yp,yc 5629499534213120,Nat.mul_left_comm 6724873095247260,←yc 5629499534213120]at this;exact this
theorem q8e {a:Nat}(h:a<=9094988921128908188):qig a 4611686018427387904<=a:=qnr wA wD wD
end Go.Flt
