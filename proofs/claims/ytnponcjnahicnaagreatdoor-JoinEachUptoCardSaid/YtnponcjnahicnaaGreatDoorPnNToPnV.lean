/- Parts of the proof. -/
import Derived.Test.YtnponcjnahicnaaGreatDoorPnGToFltB
import Derived.Deep.RegionHeld3
set_option linter.unusedSimpArgs false
set_option linter.unusedVariables false
set_option maxRecDepth 100000
set_option maxHeartbeats 2000000
open Go.Proofs.Tryz(prog)
open List(find?_cons foldlM_cons foldlM_nil getElem?_cons_succ getElem_cons_succ getElem_cons_zero getElem_toArray nil_append set_append_right set_cons_succ set_cons_zero take_set)
namespace Go.Proofs.P16
open Go.RowKit Go.Ink Go.Flt
attribute [local go_sem] Oper.semAt_some
def qgv (sizes:List qas)(pred:ByteArray):qas:=(sizes.find? fun s=>decide (s.pred=pred)).getD ⟨⟨#[]⟩,0,[]⟩
def qga (z:qas)(n:Nat)(c:Int):Nat:=if c<z.dist.length/\0<z.dist.getD c.toNat 0 then qig n (qgu (z.dist.getD c.toNat 0)) else n
def qdc (ahead:Nat)(L:LitD)(bound:List Int)(sizes:List qas):Nat:=
 if L.kind=2 then qig ahead 4611686018427387904 else if L.kind=3 then qqq ahead
 else bound.foldl (qga (qgv sizes L.atom.pred)) (cap (qf9 ahead (qgu (qgv sizes L.atom.pred).rows)))
def q0h (z:qas):Prop:=0<=z.rows/\z.rows<=2147483647/\ ∀c,c∈z.dist->0<=c/\c<=2147483647
theorem q0i {l:List qas}(h:qb0 l=true): ∀z,z∈l->q0h z:=by
 intro z g;unfold qb0 at h;rw [xJ,xZ]at h;have:=h z g;unfold qif at this;rw [xt,xF,xZ]at this;obtain⟨b,d⟩:=this;unfold qhz at b;rw [xF,yQ,yQ]at b;refine⟨wA,wA,fun c e=>?_⟩;have:=d c e;unfold qhz at this;rw [xt,xF,yQ,yQ]at this;omega
theorem qu3 {l:List qas}(h:qb0 l=true)(b:ByteArray):q0h (qgv l b):=by
 unfold qgv;cases c:l.find? fun s=>decide (s.pred=b) with
 |none=>exact⟨wD,wD,wC⟩
 |some z=>exact q0i h z (xb c)
theorem q8f {z:qas}(l:q0h z){n:Nat}(e:n<=9094988921128908188)(c:Int):qga z n c<=9094988921128908188:=by
 unfold qga;split
 ·rename_i h;obtain⟨m,b⟩:=h;have g:z.dist.getD c.toNat 0∈z.dist:=by
   by_cases d:c.toNat<z.dist.length
   ·rw [zJ,zB d];exact xE d
   ·rw [zJ,xB wA]at b;simp at b
  have p:=l.2.2 _ g;exact zW (qnr wA (qnq wA wA) (qso wA)) e
 ·exact e
theorem qpi {z:qas}(d:q0h z)(l:List Int){n:Nat}(b:n<=9094988921128908188):l.foldl (qga z) n<=9094988921128908188:=by
 induction l generalizing n with
 |nil=>exact b
 |cons c r ih=>exact ih (q8f d b c)
theorem qns {a:Nat}(c:a<=9094988921128908188)(L:LitD)(b:List Int){l:List qas}(d:qb0 l=true):qdc a L b l<=9094988921128908188:=by
 unfold qdc;split
 ·exact zW (q8e c) c
 ·split
  ·exact q3b c
  ·exact qpi (qu3 d _) _ (q3a _)
theorem qqr (z:qas)(n:Nat)(l:List Int){k:Nat}{c:Int}(h:l[k]?=some c):(l.take (k+1)).foldl (qga z) n=qga z ((l.take k).foldl (qga z) n) c:=by
 rw [zh,h,yl]
 rfl
theorem qou (ts:Array TypeId)(t:TypeId){x:Nat}(b:x<=9218868437227405312)(w:World):(Builtin.min_ ts t #[.float .f64 x,.float .f64 9094988921128908188]).run prog w=.ok (.float .f64 (cap x)) w:=by
 have ho:FloatKind.f64.format.order x 9094988921128908188=some (compare x 9094988921128908188):=q29 b;have e:compare x 9094988921128908188=if x<9094988921128908188 then .lt else if x=9094988921128908188 then .eq else .gt:=rfl
 simp only [Builtin.min_,Builtin.min2,foldlM_cons,foldlM_nil,ho,e];unfold cap;rcases Nat.lt_trichotomy x 9094988921128908188 with h |h |h
 ·rw [zI h,zI (show x<=9094988921128908188 from wA)];simp [yq,Sem.run_pure,Result.andThen]
 ·rw [zF (show ¬x<9094988921128908188 from wA),zI h,zI (show x<=9094988921128908188 from wA)];subst h;simp [yq,Sem.run_pure,Result.andThen]
 ·rw [zF (show ¬x<9094988921128908188 from wA),zF (show ¬x=9094988921128908188 from wA),zF (show ¬x<=9094988921128908188 from wA)];simp [yq,Sem.run_pure,Result.andThen]
theorem q6e (n:Int)(w:World):(convert 3 293 (.int .i64 n)).run prog w=.ok (.float .f64 (qgu n)) w:=run_convert_int_float (P:=prog) w 3 293 .i64 .f64 n wB wB
theorem qu4 {a b:Nat}(c:a<9218868437227405312)(d:b<9218868437227405312)(w:World):(binOp .mul 293 (.float .f64 a) (.float .f64 b)).run prog w=.ok (.float .f64 (qf9 a b)) w:=run_float_arith w .mul _ .f64 a b _ (q9j c d)
theorem qpj {a b:Nat}(d:a<9218868437227405312)(e:b<9218868437227405312)(c:0<b)(w:World):(binOp .quo 293 (.float .f64 a) (.float .f64 b)).run prog w=.ok (.float .f64 (qig a b)) w:=run_float_arith w .quo _ .f64 a b _ (q9k d e c)
theorem qw6 (b a:Nat)(c:a<=9094988921128908188)(w:World)(h:w.cell? ⟨b,0,none⟩=some (.float .f64 a)):Calls prog 245 #[.pointer (some ⟨b,0,none⟩)] w fun e w'=>e=.returned (.float .f64 (qig a 4611686018427387904))/\w'=w:=by
 have hd:=fun w=>qpj (a:=a) (b:=4611686018427387904) wA wD wD w;have d:=zQ w _ h;clear c
 go_enter Tryz.func245,Tryz.ntmps245
 go_wp2_with fail;go_ret;exact⟨rfl,rfl⟩
theorem qw7 (b a:Nat)(c:a<=9094988921128908188)(w:World)(h:w.cell? ⟨b,0,none⟩=some (.float .f64 a)):Calls prog 246 #[.pointer (some ⟨b,0,none⟩)] w fun e w'=>e=.returned (.float .f64 (qqq a))/\w'=w:=by
 have g:=fun w=>qu4 (a:=a) (b:=4621256167635550208) wA wD w;have hd:=fun w=>qpj (a:=qf9 a 4621256167635550208) (b:=4621819117588971520) (qu2 c) wD wD w;have d:=zQ w _ h;clear c
 go_enter Tryz.func246,Tryz.ntmps246
 go_wp2_with fail;go_ret;exact⟨rfl,rfl⟩
theorem qu5 (b:Nat)(s:qas)(u:Value)(d:ByteArray)(n:Nat)(w:World)(v:qay n w u s.dist)(h:w.cell? ⟨b,1,none⟩=some (.string d)):Calls prog 244 #[qmd s u,.pointer (some ⟨b,0,none⟩)] w fun e w'=>e=.returned (.bool (decide (s.pred=d)))/\Keep (fun b=>b<w.heap.size) w w':=by
 obtain⟨p,rows,t⟩:=s;obtain⟨a,c,rfl,-,-,-⟩:=v;unfold qmd;simp only;have x:=zQ w _ h;by_cases m:p=d
 ·have q:decide (p=d)=true:=zS m;have l:=qil m;clear m;refine hd1 ?_ q;clear q;intro g
  go_enter Tryz.func244,Tryz.ntmps244
  go_wp2_with fail;go_ret;exact⟨by rw [g.o];first |rfl |simp [l],kAl⟩
 ·have q:decide (p=d)=false:=zM m;have l:=qgn m;clear m;refine hd1 ?_ q;clear q;intro g
  go_enter Tryz.func244,Tryz.ntmps244
  go_wp2_with fail;go_ret;exact⟨by rw [g.o];first |rfl |simp [l],kAl⟩
theorem q3c {l:List qas}{b:ByteArray}(h:qcc (fun s:qas=>decide (s.pred=b)) l<0):qgv l b=⟨⟨#[]⟩,0,[]⟩:=by
 have c:=qf4 (fun s:qas=>decide (s.pred=b)) l;rw [zM wA]at c;unfold qgv;rw [yn.2 (fun s d=>by have:=xZ.1 c.symm s d;exact this)]
 rfl
theorem q3d {l:List qas}{b:ByteArray}(h: ¬qcc (fun s:qas=>decide (s.pred=b)) l<0): ∃k:Nat,qcc (fun s:qas=>decide (s.pred=b)) l=(k:Int)/\k<l.length/\l[k]?=some (qgv l b):=by
 induction l with
 |nil=>simp [qcc] at h
 |cons s r ih=>
  have e:qcc (fun s:qas=>decide (s.pred=b)) (s::r)=if decide (s.pred=b)=true then 0 else (if qcc (fun s:qas=>decide (s.pred=b)) r<0 then-1 else qcc (fun s:qas=>decide (s.pred=b)) r+1):=rfl
  rw [e]at h⊢;by_cases c:decide (s.pred=b)=true
  ·rw [zI c];refine⟨0,rfl,wC,?_⟩;unfold qgv;rw [find?_cons,c]
   rfl
  ·rw [zF c]at h⊢;by_cases d:qcc (fun s:qas=>decide (s.pred=b)) r<0
   ·rw [zI d]at h;omega
   ·rw [zF d];obtain⟨k,g,p,m⟩:=ih d;refine⟨k+1,by rw [g];rfl,by simp;omega,?_⟩;rw [getElem?_cons_succ,m];unfold qgv;rw [xt]at c;rw [find?_cons,c]
theorem qw8 (n b7 b5 b4 b6:Nat)(a:Nat)(ha:a<=9094988921128908188)(sizes:List qas)(sv:Value)(m:ByteArray)(bound:List Int)(bv:Value)(hu:qb0 sizes=true)(aB: ∀c,c∈bound->0<=c)(w:World)
  (hs:SizesIn n w sv sizes) (hb:qay n w bv bound) (hn:n<=w.heap.size)
  (c7:w.cell? ⟨b7,0,none⟩=some sv) (c5:w.cell? ⟨b5,1,none⟩=some (.string m)) (c4:w.cell? ⟨b4,0,none⟩=some (.float .f64 a)) (c6:w.cell? ⟨b6,1,none⟩=some bv):
  Calls prog 242 #[.pointer (some ⟨b7,0,none⟩),.pointer (some ⟨b5,0,none⟩),.pointer (some ⟨b4,0,none⟩),.pointer (some ⟨b6,0,none⟩)] w
   fun e w'=>e=.returned (.float .f64 (bound.foldl (qga (qgv sizes m)) (cap (qf9 a (qgu (qgv sizes m).rows)))))/\Keep (fun b=>b<w.heap.size) w w':=by
 have l7:=zQ w _ c7;have l5:=zQ w _ c5;have l4:=zQ w _ c4;have l6:=zQ w _ c6;simp only at l7 l5 l4 l6;obtain⟨W0,ai⟩:=ex (w.alloc (.cells #[.string ⟨#[]⟩,.int .i64 0,.slice none 0 0] 244));have k0:wE w W0:=by rw [←ai];exact kAl
 have z0:W0.heap.size=w.heap.size+1:=by rw [←ai];simp
 have aH:=qnw (gf:=244) (bs:= #[]) (lb:= #[.pointer (some ⟨b5,0,none⟩)]) (qd6 Tryz.func244 wB rfl) (fun s:qas=>decide (s.pred=m)) n sv sizes W0 (hs.keep k0.mt) wA
  (fun x _ W2 hK b1 bb=>qu5 b5 x b1 m n W2 bb (hK.cell (k0.cell c5 wF) (show b5<W0.heap.size from wA)))
 have hz:=qu3 hu m;have u:= @q3c sizes m;have y:= @q3d sizes m;obtain⟨z,ar⟩:=ex (qgv sizes m);rw [ar]at hz u y;rw [ar];obtain⟨ix,ak⟩: ∃i,qcc (fun s:qas=>decide (s.pred=m)) sizes=i:=⟨_,rfl⟩;rw [ak]at aH u y;have a6:=fun x (hx:x<=9218868437227405312) w=>qou #[293,293] 293 hx w;have bJ:=fun n w=>q6e n w;have hr:=qnq hz.1 hz.2.1;have a9:=fun w=>qu4 (a:=a) (b:=qgu z.rows) wA hr w;have hm:=q6d (a:=a) (b:=qgu z.rows) wA hr;have a8:=fun w=>qou #[293,293] 293 hm w;obtain⟨a7,cq,rfl,cF,cz,a1⟩:=id hs;obtain⟨ab,cr,rfl,cG,cA,a2⟩:=id hb;have bx:=qh w (.cells #[.string ⟨#[]⟩,.int .i64 0,.slice none 0 0] 244);rw [ai]at bx;obtain⟨X,hX⟩:=ex (w.heap.size);rw [hX]at bx z0 l7 l5 l4 l6 hn;clear hs hb;have cQ:b7<w.heap.size:=wA
 have cO:b5<w.heap.size:=wA
 have cN:b4<w.heap.size:=wA
 have cP:b6<w.heap.size:=wA
 refine qlx ?_ aH u y a1 a2 ar ak hz aB ai bx k0 hX;clear aH u y a1 a2 ar ak hz aB ai bx k0 hX;intro aS ao ap aR ax cd bo aE ag aQ bn aT ae
 go_enter Tryz.func242,Tryz.ntmps242
 go_wp2_with fail;rw [aQ.o,ae.o];refine aS.o.mono ?_;rintro e W1 ⟨rfl,k1⟩;have cK:=k1.size;have bR:wE w W0:=aT.o;have q:=k1.heap bn.o wA;have kk:Keep (fun b=>b<X) w W1:=aT.o.mt.trans (k1.mono fun b hb h=>wA);have f7:=kk.cell c7 l7;have f4:=kk.cell c4 l4;have f6:=kk.cell c6 l6;have x0:=qb q 0 _ rfl;have x1:=qb q 1 _ rfl;have x2:=qb q 2 _ rfl;have y0:=qg q 0;have y1:=qg q 1;have y2:=qg q 2;simp only [zD]at x0 x1 x2;have aW:X<W1.heap.size:=wA
 have aA:b7<W1.heap.size:=wA
 have ay:b4<W1.heap.size:=wA
 have az:b6<W1.heap.size:=wA
 clear c7 c5 c4 c6 k1 bR;obtain⟨s0,ad⟩:=ex (cap (qf9 a (qgu z.rows)));have aC:s0<=9094988921128908188:=by rw [←ad];exact q3a _
 simp only [ad]at a8⊢;have bz: ∀(W:World),True:=fun _=>trivial;clear bz a6;by_cases ba:ix<0
 ·have au:=ao.o ba;have bK: ¬ix≥0:=by omega
  have al:z.rows=0:=by rw [au]
  have aa:z.dist= []:=by rw [au]
  rw [al]at a9 a8;have aV:W1.heap[X]?=some (.cells #[.string z.pred,.int .i64 z.rows,.slice none z.dist.length 0] 244 (0,0)):=by rw [q,au];rfl
  have aj: ∀(k:Nat) (x:Int),z.dist[k]?=some x-> ∃b off,(none:Option Addr)=some ⟨b,off,none⟩/\b<n/\qf6 w b (off+k*1) x:=fun k x h=>by rw [aa] at h;simp at h
  clear au;refine hd7 ?_ q aV kk al aa aj ad;clear q aV kk al aa aj ad;intro aw aP aF bp bg af ah;go_wp2_with fail;refine qlb (fun W=>Keep (fun b=>b<X) w W/\W.heap[X]?=some (.cells #[.string z.pred,.int .i64 z.rows,.slice none z.dist.length 0] 244 (0,0))) ⟨aF.o,aP.o⟩ ?_;clear x0 x1 x2 y0 y1 y2 f7 f4 f6 aW aA ay az;rintro W2 ⟨kk2,U⟩;have bO:X<W2.heap.size:=qe U;have am:w.heap.size=X:=ae.o;have x2:=qb U 2 _ rfl;simp only [zD]at x2;clear am U;refine hd1 ?_ kk2;clear kk2;intro t
  go_loopw [7,28] (fun x7 i' wr=> ∃k:Nat,k<=bound.length/\i'=.int .i64 (k:Int)/\x7=.float .f64 ((bound.take k).foldl (qga z) s0)/\wr=W2) (fun _ i _=>bound.length-(intOf i).toNat)
  case atStart=>exact⟨0,wA,rfl,rfl,rfl⟩
  case round=>
   obtain⟨k,hk,rfl,rfl,hw⟩:=hrel;have hw:=hw.symm;subst hw;by_cases aJ:k<bound.length
   ·have a5:(k:Int)<bound.length:=by omega
    have bM:(0:Int)<=k:=wA
    obtain⟨c,hc⟩: ∃x,bound[k]?=some x:=⟨_,zB aJ⟩;obtain⟨b9,o9,rfl,bH,q0⟩:=ax.o k c hc;unfold qf6 at q0;simp only [yB]at q0;have f0:=t.o.cell q0 (show b9<X from wA);have aZ:b9<W2.heap.size:=wA
    have l:=qqr z s0 bound hc;have bI:=ag.o c (zH hc);have aI:=qpi aE.o (bound.take k) aC;obtain⟨v,hv⟩:=ex ((bound.take k).foldl (qga z) s0);rw [hv]at aI l⊢;clear q0 hc hv;by_cases Y:c<z.dist.length
    ·obtain⟨d,hd⟩: ∃d,z.dist[c.toNat]?=some d:=⟨_,zB wA⟩;obtain⟨aG,bW,aL,aX,r0⟩:=af.o c.toNat d hd;cases aL
    ·have R:qga z v c=v:=by
      unfold qga;exact zF (fun h=>Y h.1)
     rw [R]at l;clear R;refine hd1 ?_ l;clear l;intro p;go_wp2_with fail;go_roundw
     case rel=>exact⟨k+1,wA,by go_num,by rw [p.o],by trivial⟩
     case measure=>simp [intOf];omega
   ·obtain rfl:k=bound.length:=by omega
    rw [zi];go_wp2_with fail;go_ret;have am:w.heap.size=X:=ae.o;exact⟨by rw [ah.o];rfl,t.o.mono fun b _ h=>wA⟩
 ·obtain⟨j,bL,cC,a4⟩:=ap.o wA;subst bL;have bK:(j:Int)≥0:=by omega
  have cD:(j:Int)<sizes.length:=wA
  obtain⟨b8,o8,rfl,cy,zv,Y,bP⟩:=aR.o j z a4;obtain⟨zd,zc,rfl,cM,cL,aj⟩:=bP;have g: ∀i v,[Value.string z.pred,.int .i64 z.rows,.slice zd z.dist.length zc][i]?=some v->W1.cell? ⟨b8,o8+j*3+i,none⟩=some v:=fun i v h=>kk.cell (Y i v h) (show b8<X from wA);have d0:=g 0 _ rfl;have d1:=g 1 _ rfl;have d2:=g 2 _ rfl;simp only [Nat.add_zero]at d0;have aY:b8<W1.heap.size:=wA
  clear g Y a4;refine hd4 ?_ q kk aj ad;clear q kk aj ad;intro aw aF af ah;go_wp2_with fail;refine qlb (fun W=>Keep (fun b=>b<X) w W/\W.heap[X]?=some (.cells #[.string z.pred,.int .i64 z.rows,.slice zd z.dist.length zc] 244 (0,0))) ⟨aF.o.trans (((kSc).trans (kSc)).trans (kSc)),by
   have h1:=qaj 0 (.string z.pred) aw.o;have h2:=qaj 1 (.int .i64 z.rows) h1;have h3:=qaj 2 (.slice zd z.dist.length zc) h2;exact h3⟩ ?_
  clear x0 x1 x2 y0 y1 y2 f7 f4 f6 aW aA ay az d0 d1 d2 aY;rintro W2 ⟨kk2,U⟩;have bO:X<W2.heap.size:=qe U;have am:w.heap.size=X:=ae.o;have x2:=qb U 2 _ rfl;simp only [zD]at x2;clear am U;refine hd1 ?_ kk2;clear kk2;intro t
  go_loopw [7,28] (fun x7 i' wr=> ∃k:Nat,k<=bound.length/\i'=.int .i64 (k:Int)/\x7=.float .f64 ((bound.take k).foldl (qga z) s0)/\wr=W2) (fun _ i _=>bound.length-(intOf i).toNat)
  case atStart=>exact⟨0,wA,rfl,rfl,rfl⟩
  case round=>
   obtain⟨k,hk,rfl,rfl,hw⟩:=hrel;have hw:=hw.symm;subst hw;by_cases aJ:k<bound.length
   ·have a5:(k:Int)<bound.length:=by omega
    have bM:(0:Int)<=k:=wA
    obtain⟨c,hc⟩: ∃x,bound[k]?=some x:=⟨_,zB aJ⟩;obtain⟨b9,o9,rfl,bH,q0⟩:=ax.o k c hc;unfold qf6 at q0;simp only [yB]at q0;have f0:=t.o.cell q0 (show b9<X from wA);have aZ:b9<W2.heap.size:=wA
    have l:=qqr z s0 bound hc;have bI:=ag.o c (zH hc);have aI:=qpi aE.o (bound.take k) aC;obtain⟨v,hv⟩:=ex ((bound.take k).foldl (qga z) s0);rw [hv]at aI l⊢;clear q0 hc hv;by_cases Y:c<z.dist.length
    ·obtain⟨d,hd⟩: ∃d,z.dist[c.toNat]?=some d:=⟨_,zB wA⟩;obtain⟨aG,bW,aL,aX,r0⟩:=af.o c.toNat d hd;subst aL;unfold qf6 at r0;simp only [yB]at r0;have f1:=t.o.cell r0 (show aG<X from wA);have bG:aG<W2.heap.size:=by omega
     have a3:z.dist.getD c.toNat 0=d:=by rw [zJ,hd];rfl
     have cB:=aE.o.2.2 d (zH hd);have R:qga z v c=if 0<d then qig v (qgu d) else v:=by
      unfold qga;rw [a3];by_cases h:0<d
      ·rw [zI ⟨Y,h⟩,zI h]
      ·rw [zF (fun x=>h x.2),zF h]
     rw [R]at l;clear hd a3 r0 R;by_cases a0:0<d
     ·rw [zI a0]at l;have cj:=fun w=>qpj (a:=v) (b:=qgu d) wA (qnq wA wA) (by have:=qso (n:=d) wA;omega) w;refine hd1 ?_ l;clear l;intro p;go_wp2_with fail;go_roundw
      case rel=>exact⟨k+1,wA,by go_num,by rw [p.o],by trivial⟩
      case measure=>simp [intOf];omega
     ·rw [zF a0]at l;refine hd1 ?_ l;clear l;intro p;go_wp2_with fail;go_roundw
      case rel=>exact⟨k+1,wA,by go_num,by rw [p.o],by trivial⟩
      case measure=>simp [intOf];omega
    ·have R:qga z v c=v:=by
      unfold qga;exact zF (fun h=>Y h.1)
     rw [R]at l;clear R;refine hd1 ?_ l;clear l;intro p;go_wp2_with fail;go_roundw
     case rel=>exact⟨k+1,wA,by go_num,by rw [p.o],by trivial⟩
     case measure=>simp [intOf];omega
   ·obtain rfl:k=bound.length:=by omega
    rw [zi];go_wp2_with fail;go_ret;have am:w.heap.size=X:=ae.o;exact⟨by rw [ah.o];rfl,t.o.mono fun b _ h=>wA⟩
theorem q9m (c g h:Fn)(b d e:Array Value)(w:World):(Instr.index 319 (.agg #[.func c #[] b,.func g #[] d,.func h #[] e]) (.int .i64 0)).run prog w=.ok (.func c #[] b) w:=wB
theorem q9n (g c h:Fn)(d b e:Array Value)(w:World):(Instr.index 319 (.agg #[.func g #[] d,.func c #[] b,.func h #[] e]) (.int .i64 1)).run prog w=.ok (.func c #[] b) w:=wB
theorem q9o (g h c:Fn)(d e b:Array Value)(w:World):(Instr.index 319 (.agg #[.func g #[] d,.func h #[] e,.func c #[] b]) (.int .i64 2)).run prog w=.ok (.func c #[] b) w:=wB
theorem qqs (n:Nat)(a:Nat)(ha:a<=9094988921128908188)(L:LitD)(sa:Value)(s:qfb)(t nv:Value)(sizes:List qas)(sv:Value)(hu:qb0 sizes=true)(l: ∀c,c∈s.bound->0<=c)(hk:L.kind=1∨L.kind=2∨L.kind=3)(w:World)
  (ar: ∃x m c,sa=.slice x m c) (ap: ∃x m c,nv=.slice x m c) (hs:SizesIn n w sv sizes) (hb:qay n w t s.bound) (hn:n<=w.heap.size):
  Calls prog 210 #[.float .f64 a,qep L sa,qkp s t nv,sv] w fun e w'=>e=.returned (.float .f64 (qdc a L s.bound sizes))/\Keep (fun b=>b<w.heap.size) w w':=by
 obtain⟨W0,d⟩:=ex ((((w.alloc (.cells #[.float .f64 a] 293)).alloc (.cells #[.int .i64 L.kind,.string L.atom.pred,sa,.bool L.left.var,.string L.left.text,.bool L.right.var,.string L.right.text] 79)).alloc (.cells #[.int .i64 s.lit,t,nv] 251)).alloc (.cells #[sv] 242));have k0:wE w W0:=by rw [←d];exact((kAl.trans kAl).trans kAl).trans kAl
 have z0:W0.heap.size=w.heap.size+1+1+1+1:=by rw [←d];simp
 have g1:W0.heap[w.heap.size]?=some (.cells #[.float .f64 a] 293 (0,0)):=by rw [←d];simp only [qar,zO];rw [zF wA,zF wA,zF wA,zI trivial]
 have g2:W0.heap[w.heap.size+1]?=some (.cells #[.int .i64 L.kind,.string L.atom.pred,sa,.bool L.left.var,.string L.left.text,.bool L.right.var,.string L.right.text] 79 (0,0)):=by rw [←d];simp only [qar,zO];simp
 have g3:W0.heap[w.heap.size+1+1]?=some (.cells #[.int .i64 s.lit,t,nv] 251 (0,0)):=by rw [←d];simp only [qar,zO];simp
 have g4:W0.heap[w.heap.size+1+1+1]?=some (.cells #[sv] 242 (0,0)):=by rw [←d];simp only [qar,zO];simp
 have z:=qb g1 0 _ rfl;have c5:=qb g2 1 _ rfl;have c6:=qb g3 1 _ rfl;have c7:=qb g4 0 _ rfl;simp only [zD]at z c5 c6 c7;have h1:=qw8 n (w.heap.size+1+1+1) (w.heap.size+1) w.heap.size (w.heap.size+1+1) a ha sizes sv L.atom.pred s.bound t hu l W0 (hs.keep k0.mt) (qkr hb k0.mt) wA c7 c5 z c6;have h2:=qw6 w.heap.size a ha W0 z;have h3:=qw7 w.heap.size a ha W0 z;have e1:L.kind=1->qdc a L s.bound sizes=s.bound.foldl (qga (qgv sizes L.atom.pred)) (cap (qf9 a (qgu (qgv sizes L.atom.pred).rows))):=fun h=>by unfold qdc;rw [zF wA,zF wA]
 have e2:L.kind=2->qdc a L s.bound sizes=qig a 4611686018427387904:=fun h=>by unfold qdc;rw [zI h]
 have e3:L.kind=3->qdc a L s.bound sizes=qqq a:=fun h=>by unfold qdc;rw [zF wA,zI h]
 obtain⟨aH,aL,rfl,-,-,-⟩:=id hs;obtain⟨aE,aI,rfl,-,-,-⟩:=id hb;obtain⟨aG,aQ,aK,rfl⟩:=ar;obtain⟨aF,aP,aJ,rfl⟩:=ap;obtain⟨kd,⟨pr,args⟩,⟨lv,lt⟩,⟨rv,rt⟩⟩:=L;obtain⟨si,sb,sn⟩:=s;unfold qep qkp;simp only at*;clear hs hb g1 g2 g3 g4 z c5 c6 c7 l;refine hd8 ?_ h1 h2 h3 e1 e2 e3 k0 d;clear h1 h2 h3 e1 e2 e3 k0 d;intro ai aj ak af ag ah p g;have t0:=fun R U Y u v y w=>q9m R U Y u v y w;have t1:=fun R U Y u v y w=>q9n R U Y u v y w;have t2:=fun R U Y u v y w=>q9o R U Y u v y w;rcases hk with rfl |rfl |rfl
 ·go_enter Tryz.func210,Tryz.ntmps210
  go_wp2_with fail;rw [g.o];refine ai.o.mono ?_;rintro e W1 ⟨rfl,k1⟩;go_wp2_with fail;go_ret;exact⟨by rw [af.o (by trivial)];rfl,p.o.mt.trans (k1.mono fun b hb _=>wA)⟩
 ·go_enter Tryz.func210,Tryz.ntmps210
  go_wp2_with fail;rw [g.o];refine aj.o.mono ?_;rintro e W1 ⟨rfl,q⟩;subst q;go_wp2_with fail;go_ret;exact⟨by rw [ag.o (by trivial)];rfl,p.o.mt⟩
 ·go_enter Tryz.func210,Tryz.ntmps210
  go_wp2_with fail;rw [g.o];refine ak.o.mono ?_;rintro e W1 ⟨rfl,q⟩;subst q;go_wp2_with fail;go_ret;exact⟨by rw [ah.o (by trivial)];rfl,p.o.mt⟩
end Go.Proofs.P16
namespace Go.Proofs.P16
open Go.RowKit Go.Ink
attribute [local go_sem] Oper.semAt_some
def qbt (ls:List LitD):List ByteArray:=ls.foldl (fun K L=>if L.kind=1 then K++qb8 K L.atom.args else K) []
theorem qov (ls:List LitD){k:Nat}{L:LitD}(h:ls[k]?=some L):qbt (ls.take (k+1))=if L.kind=1 then qbt (ls.take k)++qb8 (qbt (ls.take k)) L.atom.args else qbt (ls.take k):=by
 unfold qbt;rw [zh,h,yl]
 rfl
def qed (r:RuleD):Bool:=!r.head.args.any (qcp (qbt r.body))&&r.body.all (qc2 (qbt r.body))
theorem qow (w:World):(Instr.makeMap 292 none).run prog w=.ok (.map (some w.heap.size)) (w.alloc (.map #[] 0)):=by
 simp [Instr.makeMap,yq,ym Tryz.underlying292,Result.andThen,run_newObj_alloc]
theorem qu6 (n M B:Nat)(K:List ByteArray)(L:LitD)(g:Value)(w:World)(m:SetIn w M K)(q:w.cell? ⟨B,0,none⟩=some (.map (some M)))(d:qak n w g L.atom.args)(Y:n<=w.heap.size):Calls prog 259 #[qep L g,.pointer (some ⟨B,0,none⟩)] w fun e w'=>e=.returned (.bool (!qc2 K L))/\Keep (fun b=>b<w.heap.size) w w':=by
 have h:=fun W (hK:wE w W)=>qsj n M K L g W (m.keep hK wF) (qan d hK.mt) (by have:=hK.size;omega);obtain⟨y,R,rfl,-,-,-⟩:=id d;obtain⟨k,⟨pr,args⟩,⟨u,lt⟩,⟨x,v⟩⟩:=L;unfold qep at h⊢;simp only at h⊢;obtain⟨z,c⟩: ∃b,qc2 K ⟨k,⟨pr,args⟩,⟨u,lt⟩,⟨x,v⟩⟩=b:=⟨_,rfl⟩;simp only [c]at h;rw [c];have t:=zQ w _ q;simp only at t;clear d m;refine hd2 ?_ h c;clear h c;intro p l
 go_enter Tryz.func259,Tryz.ntmps259
 go_wp2_with fail;refine(p.o _ kAl).mono ?_;rintro e w1 ⟨rfl,s⟩;go_wp2_with fail;go_ret;exact⟨rfl,kAl.trans (s.mono fun b U _=>by simp;omega)⟩
theorem q6f (n:Nat)(r:RuleD)(sh sb:Value)(w:World)(hr:RuleIn n w sh sb r)(hn:n<=w.heap.size):Calls prog 239 #[qaq r sh sb] w fun e w'=>e=.returned (.bool (qed r))/\Keep (fun b=>b<w.heap.size) w w':=by
 have l:=fun i L (hL:r.body[i]?=some L) M K W (d:SetIn W M K) (hK:Keep (fun b=>b<w.heap.size) w W)=>qpf n M K r sh sb i L hL W d (hr.keep (hK.mono fun b _ h=>wA)) (by have:=hK.size;omega);have hE:qed r=(!r.head.args.any (qcp (qbt r.body))&&r.body.all (qc2 (qbt r.body))):=rfl;obtain⟨hh,z⟩:=id hr;have ad:=fun M K W (d:SetIn W M K) (hK:Keep (fun b=>b<w.heap.size) w W)=>qim (gf:=241) (bs:= #[.map (some M)]) (lb:= #[]) (qd6 Tryz.func241 wB rfl) (qcp K) n sh r.head.args W (qan hh (hK.mono fun b _ h=>wA)) (by have:=hK.size;omega)
  (fun x _ W2 c=>(qpe M K x W2 (d.keep c (show M<W.heap.size from d.lt))).mono fun e w' ⟨e1,t⟩=>⟨e1,t.mt⟩)
 have s:=fun B M K W (d:SetIn W M K) (hK:Keep (fun b=>b<w.heap.size) w W) (hB:W.cell? ⟨B,0,none⟩=some (.map (some M)))=>qla (gf:=259) (bs:= #[]) (lb:= #[.pointer (some ⟨B,0,none⟩)]) (qd6 Tryz.func259 wB rfl) (fun L=>!qc2 K L) n sb r.body W (qi8 z (hK.mono fun b _ h=>wA)) (by have:=hK.size;omega)
  (fun x _ W2 c sa ak=>qu6 n M B K x sa W2 (d.keep c (show M<W.heap.size from d.lt)) (c.cell hB (zQ W _ hB)) ak (by have:=hK.size;have:=c.size;omega))
 simp only [qlk]at s;obtain⟨⟨pr,args⟩,body⟩:=r;unfold qaq at l⊢;simp only at l hE hh z ad s⊢;obtain⟨aa,ca,rfl,-,-,-⟩:=id hh;obtain⟨ab,cb,rfl,bU,bQ,aQ⟩:=id z;have bq:=fun w=>qow w;clear hh z hr;refine hd5 ?_ l hE ad s aQ;clear l hE ad s aQ;intro ag a4 ar au aI
 go_enter Tryz.func239,Tryz.ntmps239
 go_wp2_with fail;refine qlb (fun W=>Keep (fun b=>b<w.heap.size) w W/\W.heap.size=w.heap.size+1+1+1/\W.heap[w.heap.size]?=some (.cells #[.string pr,.slice aa args.length ca,.slice ab body.length cb] 27 (0,0))/\
  SetIn W (w.heap.size+1) []/\W.heap[w.heap.size+1+1]?=some (.cells #[.map (some (w.heap.size+1))] 292 (0,0))) ⟨(kAl.trans kAl).trans kAl,wC,by simp only [qar,zO];simp;omega,by
   refine(SetIn.keep (w:=(w.alloc (.cells #[.string pr,.slice aa args.length ca,.slice ab body.length cb] 27)).alloc (.map #[] 0)) ?_ (Keep.alloc (fun _=>True) _ _) wF);have:=qm9 (w.alloc (.cells #[.string pr,.slice aa args.length ca,.slice ab body.length cb] 27))
   simpa using this,by simp only [qar,zO];simp⟩ ?_
 rintro W0 ⟨k0,z0,a1,s0,a2⟩;clear bq;obtain⟨N,hN⟩:=ex (w.heap.size);rw [hN]at k0 z0 a1 s0 a2⊢;have bW:n<=N:=wA
 refine hd5 ?_ k0 a1 s0 a2 hN;clear k0 a1 s0 a2 hN;intro a8 aY ba aZ af
 go_loopw [10] (fun i' wr=> ∃k:Nat,k<=body.length/\i'=.int .i64 (k:Int)/\Keep (fun b=>b<N+1+1+1/\b≠N+1) W0 wr/\SetIn wr (N+1) (qbt (body.take k))) (fun i _=>body.length-(intOf i).toNat)
 case atStart=>exact⟨0,wA,rfl,Keep.refl _ _,ba.o⟩
 case round=>
  obtain⟨k,hk,rfl,hK,d⟩:=hrel;have b3:=hK.size;have b1:=hK.heap aY.o (show N<N+1+1+1/\N≠N+1 from wA);have b2:=hK.heap aZ.o (show N+1+1<N+1+1+1/\N+1+1≠N+1 from wA);have c0:=qb b1 0 _ rfl;have c1:=qb b1 1 _ rfl;have c2:=qb b1 2 _ rfl;have c3:=qb b2 0 _ rfl;simp only [zD]at c0 c1 c2 c3;have bk:=d.lt;have bn:N<wr.heap.size:=wA
  have aL:N+1+1<wr.heap.size:=wA
  have kw:Keep (fun b=>b<N) w wr:=a8.o.trans (hK.mono fun b _ h=>⟨wA,wA⟩);by_cases bp:k<body.length
  ·have bJ:(k:Int)<body.length:=by omega
   have bR:(0:Int)<=k:=wA
   obtain⟨x,hx⟩: ∃x,body[k]?=some x:=⟨_,zB bp⟩;obtain⟨b,o,rfl,z,sa,aP,ak⟩:=aI.o k x hx;obtain⟨av,aw,rfl,bV,-,-⟩:=id ak;have g: ∀j v,(qap x (.slice av x.atom.args.length aw))[j]?=some v->wr.cell? ⟨b,o+k*7+j,none⟩=some v:=fun j v h=>kw.cell (aP j v h) (show b<N from wA);have d0:=g 0 _ rfl;have d1:=g 1 _ rfl;have d2:=g 2 _ rfl;have d3:=g 3 _ rfl;have d4:=g 4 _ rfl;have d5:=g 5 _ rfl;have d6:=g 6 _ rfl;simp only [Nat.add_zero]at d0;have bP:b<wr.heap.size:=wA
   have m:=qov body hx;obtain⟨W1,u⟩:=ex (wr.alloc (.cells #[.int .i64 x.kind,.string x.atom.pred,.slice av x.atom.args.length aw,.bool x.left.var,.string x.left.text,.bool x.right.var,.string x.right.text] 79));have t:wE wr W1:=by rw [←u];exact kAl
   have b4:=t.size;have ai:Keep (fun b=>b<N+1+1+1/\b≠N+1) W0 W1:=hK.trans t.mt;have p:=d.keep t trivial;have e0:=t.cell c0 trivial;have e1:=t.cell c1 trivial;have e2:=t.cell c2 trivial;have e3:=t.cell c3 trivial;clear g aP ak b1 b2;by_cases y:x.kind=1
   ·have aR:(x.kind==1)=true:=by simp [y]
    rw [zI y]at m;have az:=ag.o k x hx (N+1) (qbt (body.take k)) W1.drew (p.keep (Keep.drew (fun _=>True) _) wF) ((kw.trans t.mt).trans kDr |>.mono fun b _ h=>by have:=af.o;omega);have ao:wr.alloc (.cells #[.int .i64 1,.string x.atom.pred,.slice av x.atom.args.length aw,.bool x.left.var,.string x.left.text,.bool x.right.var,.string x.right.text] 79)=W1:=by rw [←u,y]
    have b0:=ql8 (qbt (body.take k)) x.atom.args;have ae:(qbh (qbt (body.take k)) x k).new=qb8 (qbt (body.take k)) x.atom.args:=by unfold qbh;rw [zF wA]
    have q:=q0g (qbt (body.take k)) x k;rw [ae]at q;rw [←q]at m;rw [ae]at az;clear ae;have bI:=p.lt;clear y;refine qhw ?_ hK d kw u t ai p m az hx ao q;clear hK d kw u t ai p m az hx ao q;intro aE aG ah Y a9 R U an aJ a7 a5 a6;go_wp2_with fail;rw [Y.o]
    go_region_held3 (fun W=>W.cell? ⟨N,0,none⟩=some (.string pr)/\W.cell? ⟨N,1,none⟩=some (.slice aa args.length ca)/\W.cell? ⟨N,2,none⟩=some (.slice (some ⟨b,o,none⟩) body.length cb)/\W.cell? ⟨N+1+1,0,none⟩=some (.map (some (N+1))))
     (first |(refine⟨?_,?_,?_,?_⟩<;>assumption) |go_keep)
     (first
      |(go_at_call 211;refine aJ.o.mono ?_;rintro e w1 ⟨vb,vn,rfl,ob,on,hq⟩;have q0:=hq.cell e0 (by simp;omega);have q1:=hq.cell e1 (by simp;omega);have q2:=hq.cell e2 (by simp;omega);have q3:=hq.cell e3 (by simp;omega);have zq:=hq.size;simp only [World.size_drew] at zq;clear e0 e1 e2 e3)
      |(go_at_call 212;have hl:=qsl w1.heap.size (N+1) (qbt (body.take k)) ⟨(k:Int),[],qb8 (qbt (body.take k)) x.atom.args⟩ vb vn w1 ((U.o.keep (Keep.drew (fun _=>True) _) wF).keep hq (by simp;omega)) (qbj on (by simp only;omega)) (zG _);unfold qkp at hl;simp only at hl;refine hl.mono ?_;rintro e w2 ⟨rfl,aN,hp⟩;have p0:=hp.cell q0 (show N≠N+1 from wA);have p1:=hp.cell q1 (show N≠N+1 from wA);have p2:=hp.cell q2 (show N≠N+1 from wA);have p3:=hp.cell q3 (show N+1+1≠N+1 from wA)))
    have c:Keep (fun b=>b<N+1+1+1/\b≠N+1) W0 w2:=((R.o.trans kDr).trans (hq.mono fun b z h=>by simp;omega)).trans (hp.mono fun b z h=>h.2);have aO:SetIn w2 (N+1) (qbt (body.take (k+1))):=by rw [an.o];exact aN
    clear hq ob on hp aN;refine hd2 ?_ c aO;clear c aO;intro aF aH;go_wp2_with fail;go_roundw
    case rel=>exact⟨k+1,wA,by go_num,aF.o,aH.o⟩
    case measure=>simp [intOf];omega
   ·have aR:(x.kind==1)=false:=y7.2 y;rw [zF y]at m;rw [←m]at p;refine hd9 ?_ hK d kw u t ai p m hx;clear hK d kw u t ai p m hx;intro aE aG ah Y a9 R U an a7;go_wp2_with fail;rw [Y.o];go_roundw
    case rel=>exact⟨k+1,wA,by go_num,R.o,U.o⟩
    case measure=>simp [intOf];omega
  ·obtain rfl:k=body.length:=by omega
   rw [zi]at d;have aj:Keep (fun b=>b<w.heap.size) w wr:=kw.mono fun b _ h=>by have:=af.o;omega
   have h1:=ar.o (N+1) (qbt body) wr d aj;have h2:=fun W (c:Keep (fun b=>b<wr.heap.size) wr W)=>au.o (N+1+1) (N+1) (qbt body) W (d.keep c bk) (aj.trans (c.mono fun b z _=>z)) (c.cell c3 aL);obtain⟨bh,ax⟩: ∃b,args.any (qcp (qbt body))=b:=⟨_,rfl⟩;obtain⟨bl,ay⟩: ∃b,body.all (qc2 (qbt body))=b:=⟨_,rfl⟩;rw [ax]at h1;simp only [ay]at h2;have aM:qed ⟨⟨pr,args⟩,body⟩=(!bh&&bl):=by rw [a4.o,ax,ay]
   clear b1 b2 ax ay;refine hd7 ?_ hK d kw h1 h2 aM aj;clear hK d kw h1 h2 aM aj;intro aE aG ah aD a0 am bv;cases bh
   ·go_wp2_with fail;refine aD.o.mono ?_;rintro e W2 ⟨rfl,k2⟩;have f2:=k2.cell c2 bn;have f3:=k2.cell c3 aL;have b5:=k2.size;have bS:N<W2.heap.size:=by omega
    have h3:=a0.o W2 k2;refine hd1 ?_ h3;clear h3;intro a3;go_wp2_with fail;refine a3.o.mono ?_;rintro e W3 ⟨rfl,k3⟩;go_wp2_with fail;go_ret;exact⟨by rw [am.o];cases bl<;>rfl,(ah.o.trans (k2.mono fun b z h=>wA)).trans (k3.mono fun b z h=>wA) |>.mono fun b _ h=>by have:=af.o;omega⟩
   ·go_wp2_with fail;refine aD.o.mono ?_;rintro e W2 ⟨rfl,k2⟩;go_wp2_with fail;go_ret;exact⟨by rw [am.o];rfl,(ah.o.trans (k2.mono fun b z h=>wA)) |>.mono fun b _ h=>by have:=af.o;omega⟩
def qih (ls:List LitD):List ByteArray:=ls.foldl (fun K L=>if L.kind=1 then K++qjo L.atom.args else K) []
theorem qox (ls:List LitD){k:Nat}{L:LitD}(h:ls[k]?=some L):qih (ls.take (k+1))=if L.kind=1 then qih (ls.take k)++qjo L.atom.args else qih (ls.take k):=by
 unfold qih;rw [zh,h,yl]
 rfl
theorem ql9 {K:List ByteArray}{ts:List TermD}{x:ByteArray}:x∈qb8 K ts↔x∈qjo ts/\x∉K:=by
 rw [←q21];unfold quw;simp only [yV,xJ,yQ]
theorem q3e (ls:List LitD)(x:ByteArray):x∈qih ls↔x∈qbt ls:=by
 have h: ∀k,k<=ls.length->(x∈qih (ls.take k)↔x∈qbt (ls.take k)):=by
  intro k
  induction k with
  |zero=>intro _;simp [qih,qbt]
  |succ k b=>
   intro e;have b:=b wA;have c:=zB (show k<ls.length from wA);rw [qox ls c,qov ls c];split
   ·rw [zr,zr,ql9,b];constructor
    ·rintro(h |h)
     ·exact .inl h
     ·by_cases d:x∈qbt (ls.take k)
      ·exact .inl d
      ·exact .inr ⟨h,d⟩
    ·rintro(h |h)
     ·exact .inl h
     ·exact .inr h.1
   ·exact b
 have:=h ls.length (zG _)
 rwa [zi] at this
def qd9 (r:RuleD)(l:List qas)(arg:Bool):Int:=if !qat r ||!qb0 l ||arg then 2 else if !qed r then 14 else 0
theorem q3g (n:Nat)(r:RuleD)(sh sb:Value)(l:List qas)(sv:Value)(w:World)(hr:RuleIn n w sh sb r)(hl:SizesIn n w sv l)(hn:n<=w.heap.size):Calls prog 207 #[qaq r sh sb,sv] w fun e w'=>e=.returned (.int .i64 (qd9 r l false))/\Keep (fun b=>b<w.heap.size) w w':=by
 have U:=fun W (hK:Keep (fun b=>b<w.heap.size) w W)=>q0c n r sh sb W (hr.keep (hK.mono fun b _ h=>wA)) (by have:=hK.size;omega);have h2:=fun W (hK:Keep (fun b=>b<w.heap.size) w W)=>q0d n l sv W (hl.keep (hK.mono fun b _ h=>wA)) (by have:=hK.size;omega);have Y:=fun W (hK:Keep (fun b=>b<w.heap.size) w W)=>q6f n r sh sb W (hr.keep (hK.mono fun b _ h=>wA)) (by have:=hK.size;omega);have hE:qd9 r l false=if !qat r ||!qb0 l ||false then 2 else if !qed r then 14 else 0:=rfl
 obtain⟨b1,t⟩: ∃b,qat r=b:=⟨_,rfl⟩;obtain⟨b2,u⟩: ∃b,qb0 l=b:=⟨_,rfl⟩;obtain⟨b3,v⟩: ∃b,qed r=b:=⟨_,rfl⟩;simp only [t]at U;simp only [u]at h2;simp only [v]at Y;rw [t,u,v]at hE;obtain⟨aE,aI,rfl,-,-,-⟩:=id hl;obtain⟨⟨pr,args⟩,body⟩:=r;obtain⟨hh,s⟩:=id hr;unfold qaq at U Y⊢;simp only at hh s U Y hE⊢;obtain⟨aa,ca,rfl,-,-,-⟩:=id hh;obtain⟨ab,cb,rfl,-,-,-⟩:=id s;obtain⟨W0,g⟩:=ex (w.alloc (.cells #[.string pr,.slice aa args.length ca,.slice ab body.length cb] 27));have k0:Keep (fun b=>b<w.heap.size) w W0:=by rw [←g];exact kAl
 have hz:=k0.size;have R:W0.heap[w.heap.size]?=some (.cells #[.string pr,.slice aa args.length ca,.slice ab body.length cb] 27 (0,0)):=by rw [←g];exact qh _ _
 have l0:=qe R;have c0:=qb R 0 _ rfl;have c1:=qb R 1 _ rfl;have c2:=qb R 2 _ rfl;simp only [zD]at c0 c1 c2;clear t u v hh s hr hl R;refine hd6 ?_ U h2 Y hE g k0;clear U h2 Y hE g k0;intro y af ag q p d;cases b1
 ·go_enter Tryz.func207,Tryz.ntmps207
  go_wp2_with fail;rw [p.o];refine(y.o _ d.o).mono ?_;rintro e W1 ⟨rfl,m⟩;go_wp2_with fail;go_ret;exact⟨by rw [q.o];rfl,d.o.trans (m.mono fun b s _=>wA)⟩
 ·cases b2
  all_goals go_enter Tryz.func207,Tryz.ntmps207
  all_goals go_wp2_with fail
  all_goals rw [p.o]
  all_goals refine(y.o _ d.o).mono ?_
  all_goals (rintro e W1 ⟨rfl,m⟩;have e0:=m.cell c0 l0;have e1:=m.cell c1 l0;have e2:=m.cell c2 l0;have z1:=m.size;have kk:Keep (fun b=>b<w.heap.size) w W1:=d.o.trans (m.mono fun b s _=>wA);have l1:w.heap.size<W1.heap.size:=wA;clear c0 c1 c2)
  all_goals (have z:=zg kk;have aC:=zg m;clear kk m)
  all_goals go_wp2_with fail
  all_goals refine(af.o _ z.o).mono ?_
  all_goals (rintro e W2 ⟨rfl,x⟩;have f0:=x.cell e0 l1;have f1:=x.cell e1 l1;have f2:=x.cell e2 l1;have z2:=x.size;have kk2:Keep (fun b=>b<w.heap.size) w W2:=z.o.trans (x.mono fun b s _=>wA);have l2:w.heap.size<W2.heap.size:=wA;clear e0 e1 e2)
  all_goals (have c:=zg kk2;have aD:=zg x;clear kk2 x)
  ·go_wp2_with fail;go_ret;exact⟨by rw [q.o];rfl,c.o⟩
  ·cases b3
   all_goals go_wp2_with fail
   all_goals refine(ag.o _ c.o).mono ?_
   all_goals (rintro e W3 ⟨rfl,k3⟩)
   all_goals go_wp2_with fail
   all_goals go_ret
   all_goals exact⟨by rw [q.o];rfl,c.o.trans (k3.mono fun b s _=>wA)⟩
theorem qfc (w:World)(e:TypeId)(sz:Nat):(w.alloc (.cells #[] e)).ownsRow w.heap.size e sz (.slice (some ⟨w.heap.size,0,none⟩) 0 0) 0 []:=
 ⟨wC,.inr ⟨w.heap.size,0,#[],rfl,zG _,qh w _,zG _,by simp [maxLen],wC,wC⟩⟩
theorem qrq {T e:TypeId}{sz d:Nat}(h:qb2 prog T e sz d)(w:World)(a:Option Addr)(l c:Nat):(binOp .eql T (.slice a l c) (.slice none 0 0)).run prog w=.ok (.bool a.isNone) w:=by
 show((Op.equal T (.slice a l c) (.slice none 0 0))>>=fun b=>pure (Value.bool b)).run prog w=_;simp [run_equal_slice_nil w T e a l c h.1]
theorem qh1:qb2 prog 22 77 2 24:=qcl (z:=.agg #[.bool false,.string ⟨#[]⟩]) wB wB rfl wD wD
theorem qlh:qb2 prog 25 79 7 96:=qcl (z:=.agg #[.int .i64 0,.string ⟨#[]⟩,.slice none 0 0,.bool false,.string ⟨#[]⟩,.bool false,.string ⟨#[]⟩]) wB wB rfl wD wD
theorem q6g:qb2 prog 245 251 3 56:=qcl (z:=.agg #[.int .i64 0,.slice none 0 0,.slice none 0 0]) wB wB rfl wD wD
theorem qhf (a:Option Addr)(m c:Nat)(d:List Value)(w:World)(z:d.length=m*2)(hs: ∀b,a=some b-> ∀j u,d[j]?=some u->w.cell? (b.add j)=some u)(hn:a=none->m=0)(p: ∀u∈d,u.oneCell'=true)(hm:m<=1073741824):
  Calls prog 113 #[.slice a m c] w fun e w'=> ∃v',e=.returned v'/\w'.ownsRow w.heap.size 77 2 v' m d/\wE w w':=by
 have hq:=fun w a l c=>qrq qh1 w a l c;cases a with
 |none=>
  have aa:=hn rfl;subst aa;have x:d= []:=yo (by simpa using z);subst x;clear z hs hn p hm
  go_enter Tryz.func113,Tryz.ntmps113
  go_wp2_with fail;go_ret;exact⟨_,rfl,zj _ _ _ _,Keep.refl _ _⟩
 |some b=>
  obtain⟨W0,g⟩:=ex (w.alloc (.cells #[] 77));have y:wE w W0:=by rw [←g];exact kAl
  have o0:=qfc w 77 2;rw [g]at o0;obtain⟨v',W1,hr,ho,hg,hk⟩:=qhx (P:=prog) qh1 22 o0 (some b) m c d z (fun b' Y j u hj=>y.cell (hs b' Y j u hj) wF) (fun h=>by cases h) p wA y.size;rw [nil_append,zD]at ho;have s:Keep (fun b=>b<w.heap.size) w W1:=y.mt.trans (hk.mono fun b _ h e=>by
   rcases hg b e with p |p
   ·simp [Value.ownBlock]at p;omega
   ·have:=y.size;omega)
  have t:wE w W1:=s.mono fun b Y _=>Y;rw [←g]at hr;obtain⟨a',c',rfl⟩:=qi ho;clear z hs hn p hg hk s y o0 g;refine hd3 ?_ hr ho t;clear hr ho t;intro U R q
  go_enter Tryz.func113,Tryz.ntmps113
  go_wp2_with (at_builtin;refine qbo (v:=.slice (some ⟨w.heap.size,0,none⟩) 0 0) (u:=.slice (some b) m c) (v':=.slice a' m c') (w':=W1) rfl (.tmp 5) (.tmp 6) 22 rfl rfl rfl U.o ?_);go_ret;exact⟨_,rfl,R.o,q.o⟩
theorem qmp (a:Option Addr)(m c:Nat)(d:List Value)(w:World)(z:d.length=m*7)(hs: ∀b,a=some b-> ∀j u,d[j]?=some u->w.cell? (b.add j)=some u)(hn:a=none->m=0)(p: ∀u∈d,u.oneCell'=true)(hm:m<=1073741824):
  Calls prog 114 #[.slice a m c] w fun e w'=> ∃v',e=.returned v'/\w'.ownsRow w.heap.size 79 7 v' m d/\wE w w':=by
 have hq:=fun w a l c=>qrq qlh w a l c;cases a with
 |none=>
  have aa:=hn rfl;subst aa;have x:d= []:=yo (by simpa using z);subst x;clear z hs hn p hm
  go_enter Tryz.func114,Tryz.ntmps114
  go_wp2_with fail;go_ret;exact⟨_,rfl,zj _ _ _ _,Keep.refl _ _⟩
 |some b=>
  obtain⟨W0,g⟩:=ex (w.alloc (.cells #[] 79));have y:wE w W0:=by rw [←g];exact kAl
  have o0:=qfc w 79 7;rw [g]at o0;obtain⟨v',W1,hr,ho,hg,hk⟩:=qhx (P:=prog) qlh 25 o0 (some b) m c d z (fun b' Y j u hj=>y.cell (hs b' Y j u hj) wF) (fun h=>by cases h) p wA y.size;rw [nil_append,zD]at ho;have s:Keep (fun b=>b<w.heap.size) w W1:=y.mt.trans (hk.mono fun b _ h e=>by
   rcases hg b e with p |p
   ·simp [Value.ownBlock]at p;omega
   ·have:=y.size;omega)
  have t:wE w W1:=s.mono fun b Y _=>Y;rw [←g]at hr;obtain⟨a',c',rfl⟩:=qi ho;clear z hs hn p hg hk s y o0 g;refine hd3 ?_ hr ho t;clear hr ho t;intro U R q
  go_enter Tryz.func114,Tryz.ntmps114
  go_wp2_with (at_builtin;refine qbo (v:=.slice (some ⟨w.heap.size,0,none⟩) 0 0) (u:=.slice (some b) m c) (v':=.slice a' m c') (w':=W1) rfl (.tmp 5) (.tmp 6) 25 rfl rfl rfl U.o ?_);go_ret;exact⟨_,rfl,R.o,q.o⟩
end Go.Proofs.P16
namespace Go.Proofs.P16
open Go.RowKit Go.Ink
def qae (ts:List TermD):List Value:=ts.flatMap fun t=> [.bool t.var,.string t.text]
theorem qei (ts:List TermD):(qae ts).length=ts.length*2:=qa4 _ 2 (fun _=>rfl) ts
theorem qht (ts:List TermD): ∀u∈qae ts,u.oneCell'=true:=qjy _ (fun x u b=>by
 simp only [zw,yS,yf]at b;rcases b with rfl |rfl<;>rfl) ts
theorem qf3 {w:World}{base n:Nat}{e:TypeId}{v:Value}{ts:List TermD}(h:w.ownsRow base e 2 v n (qae ts))(m:n=ts.length)(g:ts.length<=1073741824):qak w.heap.size w v ts:=
 qda h ts m g TermE fun b k t p c=>by
  have d: ∀j,j<2->(qae ts)[k*2+j]?=([Value.bool t.var,.string t.text]:List Value)[j]?:=fun j l=>qbf _ 2 (fun _=>rfl) _ k j t p l;exact⟨by have:=c 0 wA;rw [d 0 wA] at this;exact this,by have:=c 1 wA;rw [d 1 wA] at this;exact this⟩
theorem qea {n:Nat}{w:World}{a:Option Addr}{c:Nat}{ts:List TermD}(h:qak n w (.slice a ts.length c) ts):(∀b,a=some b-> ∀j u,(qae ts)[j]?=some u->w.cell? (b.add j)=some u)/\(a=none->ts.length=0):=
 qgj (fun t:TermD=> [Value.bool t.var,Value.string t.text]) (fun _=>rfl) wA (fun b o x e j u d=>by
  match j,d with
  |0,d=>simp at d;subst d;exact e.1
  |1,d=>simp at d;subst d;exact e.2) h rfl
theorem qh6 {w:World}{base:Nat}{e:TypeId}{sz n cap g:Nat}{xs:List Value}(h:w.ownsRow base e sz (.slice (some ⟨g,0,none⟩) n cap) n xs)(j:Nat)(u:Value)(b:j<xs.length):(w.setCell ⟨g,j,none⟩ u).ownsRow base e sz (.slice (some ⟨g,0,none⟩) n cap) n (xs.set j u):=by
 refine⟨by rw [xp];exact h.1,?_⟩;rcases h.2 with ⟨h1,_⟩ |⟨g',cap',cur,h1,hb,hg,hnc,hcm,hcs,ht⟩
 ·cases h1
 ·cases h1;refine .inr ⟨g,cap,cur.setIfInBounds j u,rfl,hb,qaj j u hg,hnc,hcm,by rw [Array.size_setIfInBounds];exact hcs,?_⟩;rw [←ht,Array.toList_setIfInBounds,take_set]
abbrev qdf (p:LitD×Value):List Value:=qap p.1 p.2
theorem qyh (b rest:List (LitD×Value))(p:LitD×Value)(v:Value):((b++p::rest).flatMap qdf).set (b.length*7+2) v=(b++(p.1,v)::rest).flatMap qdf:=by
 rw [yG,yG,set_append_right _ _ (by rw [qa4 qdf 7 (fun _=>rfl)];omega),qa4 qdf 7 (fun _=>rfl)]
 congr 1
 rw [show b.length*7+2-b.length*7=2 from wA]
 rfl
def BodyOwn (base:Nat)(tl tt:TypeId)(w:World)(v:Value)(ls:List LitD):Prop:=
 ∃ps:List (LitD×Value),ps.map (·.1)=ls/\w.ownsRow base tl 7 v ls.length (ps.flatMap qdf)/\ ∀p,p∈ps->w.ownsRow base tt 2 p.2 p.1.atom.args.length (qae p.1.atom.args)
def RuleOwn (base:Nat)(tl tt:TypeId)(w:World)(vh vb:Value)(r:RuleD):Prop:=
 w.ownsRow base tt 2 vh r.head.args.length (qae r.head.args)/\BodyOwn base tl tt w vb r.body
def qu7 (r:RuleD):Prop:=r.head.args.length<=1073741824/\r.body.length<=1073741824/\ ∀L,L∈r.body->L.atom.args.length<=1073741824
theorem qpk {n:Nat}{w:World}{sh sb:Value}{r:RuleD}(h:RuleIn n w sh sb r):qu7 r:=by
 obtain⟨⟨_,_,_,b,_⟩,⟨a,c,p,d,m,e⟩⟩:=h;refine⟨b,d,fun L g=>?_⟩;obtain⟨k,l⟩:=zy.1 g;obtain⟨_,_,_,_,_,_,⟨_,_,_,h,_⟩⟩:=e k L l;exact h
theorem RuleOwn.rule {base:Nat}{s tt:TypeId}{w:World}{vh g:Value}{r:RuleD}(h:RuleOwn base s tt w vh g r)(e:qu7 r):RuleIn w.heap.size w vh g r:=by
 obtain⟨l,ps,b,m,q⟩:=h;refine⟨qf3 l rfl e.1,?_⟩;have c: ∀p,p∈ps->p.1∈r.body:=fun p d=>by rw [←b];exact yL.2 ⟨p,d,rfl⟩
 have:=quf (n0:=w.heap.size) m (by have:=yN List.length b;rw [zL] at this;rw [this];exact e.2.1) (zG _) (fun p d=>qf3 (q p d) rfl (e.2.2 _ (c p d)))
 rwa [b] at this
theorem BodyOwn.keep {base:Nat}{q tt:TypeId}{w w':World}{v:Value}{ls:List LitD}{C:Nat->Prop}(h:BodyOwn base q tt w v ls)(hK:Keep C w w')(l: ∀b,base<=b->b<w.heap.size->C b):BodyOwn base q tt w' v ls:=by
 obtain⟨ps,d,e,g⟩:=h;exact⟨ps,d,qf e hK (fun b c=>by have:=zE e b c;exact l b this.1 this.2),fun p m=>qf (g p m) hK (fun b c=>by have:=zE (g p m) b c;exact l b this.1 this.2)⟩
theorem RuleOwn.keep {base:Nat}{d tt:TypeId}{w w':World}{vh e:Value}{r:RuleD}{C:Nat->Prop}(h:RuleOwn base d tt w vh e r)(hK:Keep C w w')(c: ∀b,base<=b->b<w.heap.size->C b):RuleOwn base d tt w' vh e r:=
 ⟨qf h.1 hK (fun b g=>by have:=zE h.1 b g;exact c b this.1 this.2),h.2.keep hK c⟩
theorem BodyOwn.mono {base b:Nat}{e tt:TypeId}{w:World}{v:Value}{ls:List LitD}(h:BodyOwn base e tt w v ls)(d:b<=base):BodyOwn b e tt w v ls:=by
 obtain⟨ps,c,g,l⟩:=h;exact⟨ps,c,g.mono d,fun p m=>(l p m).mono d⟩
theorem RuleOwn.mono {base b:Nat}{d tt:TypeId}{w:World}{vh e:Value}{r:RuleD}(h:RuleOwn base d tt w vh e r)(c:b<=base):RuleOwn b d tt w vh e r:=⟨h.1.mono c,h.2.mono c⟩
theorem qqt {n:Nat}{w:World}{a:Option Addr}{c:Nat}{ls:List LitD}(h:qge n w (.slice a ls.length c) ls): ∃ps:List (LitD×Value),ps.map (·.1)=ls/\(∀p,p∈ps->qak n w p.2 p.1.atom.args)/\(∀b,a=some b-> ∀j u,(ps.flatMap qdf)[j]?=some u->w.cell? (b.add j)=some u)/\(a=none->ls.length=0):=by
 obtain⟨a',c',hv,hl,hc,U⟩:=h;cases hv;have v: ∀k,k<=ls.length-> ∃ps:List (LitD×Value),ps.map (·.1)=ls.take k/\ ∀j p,ps[j]?=some p->qak n w p.2 p.1.atom.args/\ ∃b off,a=some ⟨b,off,none⟩/\CellsE w b (off+j*7) (qdf p):=by
  intro k
  induction k with
  |zero=>intro _;exact⟨[],rfl,fun j p h=>by simp at h⟩
  |succ k ih=>
   intro y;obtain⟨ps,e,d⟩:=ih wA;obtain⟨b,off,s,q,sa,l,z⟩:=U k _ (zB (show k<ls.length from wA));have t:ps.length=k:=by have:=yN List.length e;rw [zL,yC] at this;omega
   refine⟨ps++ [(ls[k]' wA,sa)],by rw [zn,e,zh,zB (show k<ls.length from wA)];rfl,fun j p g=>?_⟩;rcases yY j ps.length with m |hge
   ·rw [yR m]at g;exact d j p g
   ·rw [yH hge]at g;have x:j-ps.length=0:=by
     have:=(zA.1 g).1;simp at this;omega
    rw [x]at g;simp at g;subst g;have:j=k:=wA
    subst this;exact⟨z,b,off,s,l⟩
 obtain⟨ps,e,d⟩:=v ls.length (zG _);rw [zi]at e;have t:ps.length=ls.length:=by have:=yN List.length e;rwa [zL] at this
 refine⟨ps,e,fun p hp=>?_,fun b q j u g=>?_,fun s=>?_⟩
 ·obtain⟨j,g⟩:=zy.1 hp;exact(d j p g).1
 ·have m:=(zA.1 g).1;rw [qa4 qdf 7 (fun _=>rfl)]at m;have Y:j/7<ps.length:=by omega
  obtain⟨R,off,s,l⟩:=(d (j/7) _ (zB Y)).2;rw [s]at q;cases q;have y:=qbf qdf 7 (fun _=>rfl) ps (j/7) (j%7) _ (zB Y) wA;rw [show j/7*7+j%7=j from wA,g]at y;have:=l (j%7) u y.symm;rw [show((⟨R,off,none⟩:Addr).add j)=⟨R,off+j,none⟩ from by unfold Addr.add;split<;>simp_all]
  rwa [xG,show j/7*7+j%7=j from wA] at this
 ·by_cases h0:ls.length=0
  ·exact h0
  ·obtain⟨b,off,q,_⟩:=U 0 ls[0] (zB wA);rw [s]at q;cases q
theorem qu8 {n:Nat}{w:World}{ps:List (LitD×Value)}(h: ∀p,p∈ps->qak n w p.2 p.1.atom.args): ∀u∈ps.flatMap qdf,u.oneCell'=true:=by
 intro u e;obtain⟨p,d,b⟩:=xD.1 e;obtain⟨a,c,g,_⟩:=h p d;unfold qdf qap at b;rw [g]at b;simp only [zw,yS,yf]at b;rcases b with rfl |rfl |rfl |rfl |rfl |rfl |rfl<;>rfl
end Go.Proofs.P16
namespace Go.Proofs.P16
open Go.RowKit Go.Ink
attribute [local go_sem] Oper.semAt_some
theorem q0j (n:Nat)(r:RuleD)(sh sb:Value)(w:World)(hr:RuleIn n w sh sb r)(hn:n<=w.heap.size):
  Calls prog 208 #[qaq r sh sb] w fun e w'=> ∃vh vb,e=.returned (qaq r vh vb)/\RuleOwn w.heap.size 79 77 w' vh vb r/\Keep (fun b=>b<w.heap.size) w w':=by
 obtain⟨⟨pr,args⟩,body⟩:=r;obtain⟨hh,l⟩:=id hr;unfold qaq;simp only at hh l⊢;obtain⟨aa,ca,rfl,cC,cV,-⟩:=id hh;obtain⟨ab,cb,rfl,cD,de,-⟩:=id l;obtain⟨bg,bV⟩:=qea hh;obtain⟨ps,bf,aw,bd,bS⟩:=qqt l;have U:ps.length=body.length:=by have:=yN List.length bf;rwa [zL] at this
 have aX:=qu8 aw;obtain⟨N,hN⟩:=ex (w.heap.size);have bN:=fun W (hK:Keep (fun b=>b<w.heap.size) w W)=>qhf aa args.length ca (qae args) W (qei args) (fun b l j u hj=>hK.cell (bg b l j u hj) (zQ w _ (bg b l j u hj))) bV (qht args) cC;have bO:=fun W (hK:Keep (fun b=>b<w.heap.size) w W)=>qmp ab body.length cb (ps.flatMap qdf) W (by rw [qa4 qdf 7 (fun _=>rfl),U]) (fun b l j u hj=>hK.cell (bd b l j u hj) (zQ w _ (bd b l j u hj))) bS aX cD;have bP:=fun p (hp:p∈ps) W (hK:Keep (fun b=>b<w.heap.size) w W)=>show∀a c,p.2=.slice a p.1.atom.args.length c->_ from fun a c e=>
  have hs:=qea (e▸aw p hp)
  qhf a p.1.atom.args.length c (qae p.1.atom.args) W (qei _) (fun b l j u hj=>hK.cell (hs.1 b l j u hj) (zQ w _ (hs.1 b l j u hj))) hs.2 (qht _) (by obtain⟨_,_,_,h,_⟩:=aw p hp;exact h)
 clear hh l hr bg bV bd bS aX;refine hd7 ?_ bN bO bP bf aw U hN;clear bN bO bP bf aw U hN;intro bo bp bq bt bu s aj
 go_enter Tryz.func208,Tryz.ntmps208
 go_wp2_with fail;refine qzq (fun W=>Keep (fun b=>b<w.heap.size) w W/\W.heap.size=w.heap.size+1+1/\W.heap[w.heap.size]?=some (.cells #[.string pr,.slice aa args.length ca,.slice ab body.length cb] 27 (0,0))/\
  W.heap[w.heap.size+1]?=some (.cells #[.string ⟨#[]⟩,.slice none 0 0,.slice none 0 0] 27 (0,0))) ⟨kAl.trans kAl,wC,by simp only [qar,zO];simp,by simp only [qar,zO];simp⟩ ?_
 rintro W0 ⟨k0,z0,g1,g2⟩;have aT:=bo.o W0 k0;rw [aj.o]at k0 z0 g1 g2⊢;have ba:=qb g1 1 _ rfl;have bb:=qb g1 2 _ rfl;simp only [zD]at ba bb;refine hd3 ?_ k0 g1 g2;clear k0 g1 g2;intro cu cs ct;refine aT.mono ?_;rintro e W1 ⟨vh,rfl,oh,k1⟩;obtain⟨an,ao,rfl⟩:=qi oh;have e1:=k1.cell ba trivial;have e2:=k1.cell bb trivial;have b1:=k1.heap cs.o trivial;have db:=qg b1 1;have dn:=k1.size;have di:N<W1.heap.size:=wA
 obtain⟨W2,ap⟩:=ex (W1.setCell ⟨N,1,none⟩ (.slice an args.length ao));have k2:Keep (fun b=>b≠N) W1 W2:=by rw [←ap];exact kSc
 have z2:W2.heap.size=W1.heap.size:=by rw [←ap];simp [World.setCell]
 have b2:=qaj 1 (.slice an args.length ao) b1;rw [ap]at b2;simp only [yK,set_cons_succ,set_cons_zero]at b2;have b9:=qf oh k2 (fun b l=>by have:=(zE oh b l).1;omega);have bi:Keep (fun b=>b<N) w W2:=(cu.o.trans k1.mt).trans (k2.mono fun b _ h=>wA);have r2:=k2.heap (k1.heap ct.o wF) (show N+1≠N from wA);have aU:=bp.o W2 (bi.mono fun b _ h=>by have:=aj.o;omega);have q2:=qb b2 2 _ rfl;simp only [zD]at q2;have dj:N<W2.heap.size:=wA
 clear ba bb aT oh k1 k2 b1;refine hd6 ?_ ap b2 b9 bi r2 aU;clear ap b2 b9 bi r2 aU;intro bl cp aR bz cv a4;go_wp2_with fail;rw [bl.o];refine a4.o.mono ?_;rintro e W3 ⟨vb,rfl,ob,k3⟩;have dp:=k3.size;obtain⟨ag,z,rfl⟩:=qi ob;have b3:=k3.heap cp.o trivial;have q3:=qb b3 2 _ rfl;have cK:=qg b3 2;simp only [zD]at q3;have dk:N<W3.heap.size:=wA
 obtain⟨W4,aq⟩:=ex (W3.setCell ⟨N,2,none⟩ (.slice ag body.length z));have k4:Keep (fun b=>b≠N) W3 W4:=by rw [←aq];exact kSc
 have z4:W4.heap.size=W3.heap.size:=by rw [←aq];simp [World.setCell]
 have b4:=qaj 2 (.slice ag body.length z) b3;rw [aq]at b4;simp only [yK,set_cons_succ,set_cons_zero]at b4;have aI:Keep (fun b=>b≠N) W2 W4:=k3.mt.trans k4;have aJ:=qf aR.o aI (fun b l=>by have:=(zE aR.o b l).1;omega);have b8:=(qf ob k4 (fun b l=>by have:=(zE ob b l).1;omega)).mono (show N+2<=W2.heap.size from wA);have aJ:=aJ.mono (show N+2<=W0.heap.size from wA);have b7:Keep (fun b=>b<N) w W4:=bz.o.trans (aI.mono fun b _ h=>wA);have r4:=aI.heap cv.o (show N+1≠N from wA);have q4:=qb b4 2 _ rfl;simp only [zD]at q4;have dl:N<W4.heap.size:=wA
 clear q2 ob k3 k4 aI b3;refine hd6 ?_ aq b4 aJ b8 b7 r4;clear aq b4 aJ b8 b7 r4;intro bm cq bG bF bD cw;go_wp2_with fail;rw [bm.o];clear q3 cK q4
 go_loopw [17] (fun i' wr=> ∃(k:Nat) (qs:List (LitD×Value)),k<=body.length/\i'=.int .i64 (k:Int)/\Keep (fun b=>b<N+2) W4 wr/\qs.length=k/\qs.map (·.1)=body.take k/\
  wr.ownsRow (N+2) 79 7 (.slice ag body.length z) body.length ((qs++ps.drop k).flatMap qdf)/\wr.ownsRow (N+2) 77 2 (.slice an args.length ao) args.length (qae args)/\
  (∀p,p∈qs->wr.ownsRow (N+2) 77 2 p.2 p.1.atom.args.length (qae p.1.atom.args))) (fun i _=>body.length-(intOf i).toNat)
 case atStart=>exact⟨0,[],wA,rfl,Keep.refl _ _,rfl,rfl,bF.o,bG.o,wC⟩
 case round=>
  obtain⟨k,qs,hk,rfl,hK,ah,ax,t,aD,aG⟩:=hrel;have dm:=hK.size;have bx:=hK.heap cq.o (show N<N+2 from wA);have c2:=qb bx 2 _ rfl;simp only [zD]at c2;have dd:N<wr.heap.size:=wA
  have kw:Keep (fun b=>b<w.heap.size) w wr:=(bD.o.mono fun b _ h=>by have:=aj.o;omega).trans (hK.mono fun b _ h=>by have:=aj.o;omega);by_cases cE:k<body.length
  ·have cW:(k:Int)<body.length:=by omega
   have dh:(0:Int)<=k:=wA
   obtain⟨p,hp⟩: ∃p,ps[k]?=some p:=⟨_,zB (by rw [s.o];exact cE)⟩;obtain⟨g,rfl⟩: ∃g,ag=some ⟨g,0,none⟩:=by
    rcases t.2 with ⟨h1,h2⟩ |⟨g,_,_,h1,_⟩
    ·omega
    ·cases h1;exact⟨g,rfl⟩
   have R:ps.drop k=p::ps.drop (k+1):=by
    have cB:=(zA.1 hp).1;have:=zt cB;rw [(zA.1 hp).2]at this;exact this
   have aE:=zH hp;obtain⟨bH,bK,aF,-,-,-⟩:=id (bu.o p aE);have bQ:=bq.o p aE wr.drew (kw.trans kDr) bH bK aF;have bc:wr.cell? ⟨g,k*7+2,none⟩=some p.2:=by
    have:=qbd t (k*7+2) p.2 (by rw [R,qbf qdf 7 (fun _=>rfl) (qs++p::ps.drop (k+1)) k 2 p (by rw [yH wA,ah];simp) wA];rfl);exact this
   rw [aF]at bc;have cA:=(qes t);have bU:body[k]?=some p.1:=by rw [←bt.o,zP,hp];rfl
   have bW:(k*7+2)<((qs++ps.drop k).flatMap qdf).length:=by
    rw [qa4 qdf 7 (fun _=>rfl),zR,xu,ah,s.o];omega
   have dg:g<wr.heap.size:=cA.2.2.1;clear hp;refine qk2 ?_ hK ah ax t aD aG bx kw R aE bQ bU aF bW;clear hK ah ax t aD aG bx kw R aE bQ bU aF bW;intro bj ak al Y ad am cr bw aA cL br bs cM bv;go_wp2_with fail;refine qau rfl (fun W=>W.cell? ⟨N,2,none⟩=some (.slice (some ⟨g,0,none⟩) body.length z)/\W.cell? ⟨g,k*7+2,none⟩=some (.slice bH p.1.atom.args.length bK)) [14] ?_;have aQ:=zg (And.intro c2 bc);refine qq [0,1,2,3,4,5,6,7,8,9] ?_
   iterate 10
    refine tkA rfl aQ.o ?_
    try simp only [qr]
   refine ql ?_;refine qf1 (i:=10) rfl wB (fun KK d=>?_);have aL:=zg d;clear d;simp only [getElem_toArray,getElem_cons_zero,getElem_cons_succ,Act.put,yK,set_cons_zero,set_cons_succ,zD];go_wp2_with fail;refine br.o.mono ?_;rintro e W5 ⟨v',rfl,o5,k5⟩;have n0:=k5.cell (show wr.drew.cell? ⟨N,2,none⟩=_ from c2) trivial;have n1:=k5.cell (show wr.drew.cell? ⟨g,k*7+2,none⟩=_ from bc) trivial;have cH:=k5.size;simp only [World.size_drew]at cH;obtain⟨x,y,rfl⟩:=qi o5;go_wp2_with fail;refine aL.o _ _ (fun _=>⟨n0,n1⟩) ?_;refine qf1 (i:=11) rfl wB (fun KK d=>?_);have aM:=zg d;clear d;go_wp2_with fail;refine aM.o _ _ (fun _=>⟨n0,n1⟩) ?_;refine qf1 (i:=12) rfl wB (fun KK d=>?_);have aN:=zg d;clear d;go_wp2_with fail;refine aN.o _ _ (fun _=>⟨n0,n1⟩) ?_;refine qf1 (i:=13) rfl wB (fun KK d=>?_);have aO:=zg d;clear d;go_wp2_with fail;refine aO.o _ _ (fun _=>⟨n0,n1⟩) ?_;refine qf1 (i:=14) rfl wB (fun KK d=>?_);have aP:=zg d;clear d;have az:wE wr W5:=kDr.trans k5;have ar:=qf Y.o az (fun _ _=>wF);obtain⟨da,aH⟩:=qba ar (b:=g) rfl;have cJ:=qg aH (k*7+2);have df:=qe aH;obtain⟨W6,aC⟩:=ex (W5.setCell ⟨g,k*7+2,none⟩ (.slice x p.1.atom.args.length y));have k6:Keep (fun b=>b≠g) W5 W6:=by rw [←aC];exact kSc
   have ae:=qh6 ar (k*7+2) (.slice x p.1.atom.args.length y) bv.o;rw [aC,aA.o]at ae;have ay:=qyh qs (ps.drop (k+1)) p (.slice x p.1.atom.args.length y);rw [ak.o]at ay;rw [ay]at ae;have af: ∀(base:Nat) (v:Value) (m:Nat) (xs:List Value),W5.ownsRow base 77 2 v m xs-> ∀b,v.ownBlock=some b->b≠g:=fun base v m xs h b l e=>by
    obtain⟨c2,t2⟩:=qba h l;rw [e,aH]at t2;cases t2
   have av:=qf ad.o az (fun _ _=>wF);have aW:=qf av k6 (af _ _ _ _ av);have bM:Keep (fun b=>b<N+2) W4 W6:=(bj.o.trans az.mt).trans (k6.mono fun b _ h=>wA);have o6:=(qf o5 k6 (af _ _ _ _ o5)).mono (show N+2<=wr.heap.size from wA);have a1: ∀q,q∈qs++ [(p.1,Value.slice x p.1.atom.args.length y)]->W6.ownsRow (N+2) 77 2 q.2 q.1.atom.args.length (qae q.1.atom.args):=fun q hq=>by
    rcases zr.1 hq with h |h
    ·have h1:=qf (am.o q h) az (fun _ _=>wF);exact qf h1 k6 (af _ _ _ _ h1)
    ·simp only [zm]at h;subst h;exact o6
   have a0:(qs++ [(p.1,Value.slice x p.1.atom.args.length y)]).map (·.1)=body.take (k+1):=by
    rw [zn,al.o,zh,bs.o];rfl
   have aZ:(qs++ [(p.1,Value.slice x p.1.atom.args.length y)]).length=k+1:=by rw [zR,ak.o];rfl
   have au:W6.ownsRow (N+2) 79 7 (.slice (some ⟨g,0,none⟩) body.length z) body.length (((qs++ [(p.1,Value.slice x p.1.atom.args.length y)])++ps.drop (k+1)).flatMap qdf):=by
    rw [yr];exact ae
   clear az ar aH k6 ae ay af av k5 o5 o6;refine hd7 ?_ aC au aW bM a1 a0 aZ;clear aC au aW bM a1 a0 aZ;intro bn aB a5 bk a8 a7 a6;go_wp2_with fail;refine aP.o _ _ (fun h=>by simp at h) ?_;refine qa0 wB ?_;clear aQ aL aM aN aO aP n0 n1 cJ;rw [bn.o];go_wp2_with fail;go_roundw
   case rel=>exact⟨k+1,_,wA,by go_num,bk.o,a6.o,a7.o,aB.o,a5.o,a8.o⟩
   case measure=>simp [intOf];omega
  ·obtain rfl:k=body.length:=by omega
   have bR:ps.drop body.length= []:=by rw [xk (by rw [s.o];exact zG _)]
   rw [bR,yP]at t;rw [zi]at ax;have c0:=qb bx 0 _ rfl;have c1:=qb bx 1 _ rfl;have rx:=hK.heap cw.o (show N+1<N+2 from wA);have d0:=qb rx 0 _ rfl;have d1:=qb rx 1 _ rfl;have d2:=qb rx 2 _ rfl;have f0:=qg rx 0;have f1:=qg rx 1;have f2:=qg rx 2;simp only [zD]at c0 c1 d0 d1 d2;have cz:N+1<wr.heap.size:=qe rx;clear bR;refine hd9 ?_ hK ah ax t aD aG bx kw rx;clear hK ah ax t aD aG bx kw rx;intro bj ak al Y ad am cr bw c7;go_wp2_with fail;refine yA (v:=.agg #[.string pr,.slice an args.length ao,.slice ag body.length z]) (by simp [results,Tryz.results208,go_sem,d0,d1,d2,cz]) rfl ?_;have kS:Keep (fun b=>b≠N+1) wr (((wr.setCell ⟨N+1,0,none⟩ (.string pr)).setCell ⟨N+1,1,none⟩ (.slice an args.length ao)).setCell ⟨N+1,2,none⟩ (.slice ag body.length z)):=
    ((kSc).trans (kSc)).trans (kSc)
   have dc:=aj.o;refine⟨_,_,rfl,⟨(qf ad.o kS (fun b l=>by have:=(zE ad.o b l).1;omega)).mono wA,qs,al.o,(qf Y.o kS (fun b l=>by have:=(zE Y.o b l).1;omega)).mono wA,fun q hq=>?_⟩,bw.o.trans (kS.mono fun b _ h=>wA)⟩;have h1:=am.o q hq;exact(qf h1 kS (fun b l=>by have:=(zE h1 b l).1;omega)).mono wA
end Go.Proofs.P16
