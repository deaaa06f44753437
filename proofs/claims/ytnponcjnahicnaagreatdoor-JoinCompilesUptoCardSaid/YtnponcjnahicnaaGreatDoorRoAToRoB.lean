/- Parts of the proof. -/
import Derived.Lib.OthersKept
import Derived.Test.YtnponcjnahicnaaGreatDoorCmE
set_option linter.unusedSimpArgs false
set_option linter.unusedVariables false
set_option maxRecDepth 100000
set_option maxHeartbeats 4000000
open Go.Proofs.Tryz(prog)
namespace Go.Proofs
open Go.RowKit Go.Ink P16
attribute [local go_sem] Oper.semAt_some
def okR (low:Bool)(k:Nat)(c:Int):Bool:=if k=0 then (if low=true then qfv c else qe2 c) else qbx c
def qcb (s:ByteArray)(low:Bool):Bool:=qbi s&&(if low=true then qfv (qd7 s) else qe2 (qd7 s))
theorem qtm {s:ByteArray}{c:Int}(h:(qb9 s)[0]?=some c):qd7 s=c:=by
 unfold qd7;cases b:qb9 s with
 |nil=>rw [b] at h;cases h
 |cons x xs=>rw [b] at h;cases h;rfl
theorem qtn {c:Int}(h:qfv c=true):qbx c=true:=by unfold qbx;rw [h];rfl
theorem qto {c:Int}(h:qe2 c=true):qbx c=true:=by unfold qbx;rw [h];simp
theorem q0g {s:ByteArray}{low:Bool}{k:Nat}{c:Int}(h:(qb9 s)[k]?=some c)(b:okR low k c=false):qcb s low=false:=by
 unfold qcb;unfold okR at b;by_cases d:k=0
 ·subst d;rw [zI rfl]at b;rw [qtm h,b,yN]
 ·rw [zF d]at b;unfold qbi;rw [qiz _ _ h b]
  rfl
theorem qxr {s:ByteArray}{low:Bool}(b:0<s.size)(d:s.size<=64)(h: ∀(k:Nat) (c:Int),(qb9 s)[k]?=some c->okR low k c=true):qcb s low=true:=by
 unfold qcb qbi;have e:=h 0 _ (qfg s b);unfold okR at e;rw [zI rfl]at e;rw [qtm (qfg s b),e,zS (show 1<=s.size from b),zS d,xJ,xJ,xJ,yL];intro c f;obtain⟨k,g⟩:=zw.1 f;have:=h k c g;unfold okR at this;split at this
 ·split at this
  ·exact qtn this
  ·exact qto this
 ·exact this
theorem qtp {low:Bool}{k:Nat}{c:Int}(h:128<=c):okR low k c=false:=by
 have b:qfv c=false:=by unfold qfv;rw [zM (show ¬c<=122 from xz),yN]
 have d:qe2 c=false:=by unfold qe2;rw [zM (show ¬c<=90 from xz),yN]
 have e:qh8 c=false:=by unfold qh8;rw [zM (show ¬c<=57 from xz),yN]
 unfold okR qbx;rw [b,d,e,zM (show ¬c=95 from xz)];split<;>simp
theorem q0h (s:ByteArray)(low:Bool)(k:Nat)(b:k<s.size):okR low k ((Utf8.decode s k).1:Int)=okR low k ((s[k].toNat:Nat):Int)/\(okR low k ((Utf8.decode s k).1:Int)=true->(Utf8.decode s k).2=1):=by
 by_cases h:(s[k]'b).toNat<128
 ·rw [decode_ascii s k b h];exact⟨rfl,fun _=>rfl⟩
 ·have e:=(decode_high s k b xz).1;have d:=qtp (low:=low) (k:=k) (c:=((Utf8.decode s k).1:Int)) xz;rw [d,qtp xz];exact⟨rfl,fun h=>(by cases h)⟩
theorem qxs {s:ByteArray}(h:s.toList.isEmpty=true):s=⟨#[]⟩:=by
 by_cases c:s=⟨#[]⟩
 ·exact c
 ·have b:=(show(s.toList==(⟨#[]⟩:ByteArray).toList)=false from by rw [←beq_toListBytes];simpa using c);cases e:s.toList with
  |nil=>rw [e,show(⟨#[]⟩:ByteArray).toList= [] from by first |rfl |simp] at b;simp at b
  |cons x xs=>rw [e] at h;cases h
theorem qll (s:ByteArray)(low:Bool)(w:World):Calls prog 202 #[.string s,.bool low] w fun e w'=>e=.returned (.bool (qcb s low))/\wD w w':=by
 by_cases h0:s.size=0
 ·have hs:s=⟨#[]⟩:=by
   obtain⟨⟨l⟩⟩:=s;have:l.length=0:=h0;cases l with
   |nil=>rfl
   |cons x xs=>cases this
  have q:qcb s low=false:=by unfold qcb qbi;rw [zM (show ¬1<=s.size from xz),yY,yN,yY]
  rw [q];subst hs;clear q h0
  go_enter Tryz.func202,Tryz.ntmps202
  go_wp2;go_ret;exact⟨rfl,Keep.refl _ _⟩
 have aN:s.toList.isEmpty=false:=by
  cases h:s.toList.isEmpty with
  |false=>rfl
  |true=>have:=qxs h;subst this;exact absurd rfl h0
 rcases yX 64 s.size with h64 |h64
 ·have q:qcb s low=false:=by
   unfold qcb qbi;rw [zM (show ¬s.size<=64 from xz),yN,yN,yY]
  have af:(64:Int)<s.size:=xz
  rw [q];clear q h64
  go_enter Tryz.func202,Tryz.ntmps202
  go_wp2;go_ret;exact⟨rfl,Keep.refl _ _⟩
 have af: ¬((64:Int)<s.size):=xz
 obtain⟨N,hN⟩:=ex (w.heap.size);refine hd1 ?_ hN;clear hN;intro u
 go_enter Tryz.func202,Tryz.ntmps202
 go_wp2;rw [u.o]
 go_loopw [] (fun wr=> ∃k:Nat,k<=s.size/\wr.heap[N]?=some (.stringIter s k)/\Keep (fun b=>b<N) w wr/\ ∀(j:Nat) (c:Int),j<k->(qb9 s)[j]?=some c->okR low j c=true) (fun wr=>s.size-wr.iterPos N)
 case atStart=>exact⟨0,xz,by rw [←u.o];exact World.iter_heap w s 0,kAl,fun j c hj=>xz⟩
 case round=>
  obtain⟨k,hk,p,hK,m⟩:=hrel;have Y:wr.iterPos N=k:=by simp [World.iterPos,p]
  by_cases t:k<s.size
  ·have aj: ∀ty,(Instr.next (.pointer (some ⟨N,0,none⟩)) true ty).run prog wr=_:=fun ty=>Lib.run_next_any_at wr N s k ty p t;have d:=Lib.iterAt_heap wr N s k (k+(Utf8.decode s k).2) p;have y:Keep (fun b=>b<N) w (wr.iterAt N s (k+(Utf8.decode s k).2)):=hK.trans ⟨rfl,rfl,rfl,by rw [Lib.iterAt_size];exact zG _,fun i _ hi=>Lib.iterAt_other wr N i s _ xz⟩;obtain⟨W1,ag⟩: ∃W1,W1=wr.iterAt N s (k+(Utf8.decode s k).2):=⟨_,rfl⟩;obtain⟨R,U⟩:=q0h s low k t;have au:=decode_le s k;have g:=qfg s t;obtain⟨wd,ak⟩:=ex ((Utf8.decode s k).2);obtain⟨c,hc⟩:=ex ((Utf8.decode s k).1);rw [←ag]at aj d y;rw [hc]at aj R U au;rw [ak]at U d;have r:okR low k (c:Int)=true-> ∃k':Nat,k'<=s.size/\W1.heap[N]?=some (.stringIter s k')/\Keep (fun b=>b<N) w W1/\(∀(j:Nat) (c:Int),j<k'->(qb9 s)[j]?=some c->okR low j c=true)/\W1.iterPos N=k+1:=fun h=>by
    have e:=U h;subst e;refine⟨k+1,xz,d,y,fun j c' hj f=>?_,by simp [World.iterPos,d]⟩;by_cases av:j<k
    ·exact m j c' av f
    ·obtain rfl:j=k:=by omega
     rw [g]at f;cases f;rw [←R];exact h
   have X:okR low k (c:Int)=false->qcb s low=false:=fun h=>q0g g (by rw [←R];exact h);clear p d hK m R U g ak ag hc;refine hd3 ?_ r X y;clear r X y;intro v ab ae;have ah:0<k-> ¬((k:Int)=0):=fun h=>xz
   have ai:0<k->(0:Int)<k:=fun h=>xz
   have z:0<k-> ¬k=0:=fun h=>xz
   by_cases f0:(97:Int)<=(c:Int)<;>by_cases f1:(c:Int)<=122<;>by_cases f2:(65:Int)<=(c:Int)<;>by_cases f3:(c:Int)<=90<;>by_cases f4:(48:Int)<=(c:Int)<;>by_cases f5:(c:Int)<=57<;>by_cases f6:(c:Int)=95
   all_goals try (exfalso;omega)
   all_goals rcases Bool.eq_false_or_eq_true (okR low k (c:Int)) with f |f
   all_goals rcases Nat.eq_zero_or_pos k with hk0 |hk0
   all_goals first |subst hk0 |(have ah:=ah hk0;have ai:=ai hk0;have z:=z hk0)
   all_goals cases low
   all_goals try (simp [okR,qbx,qfv,qe2,qh8,f0,f1,f2,f3,f4,f5,f6,z] at f;done)
   all_goals clear z
   all_goals first
    |have q:=ab.o f
     clear f;refine hd1 ?_ q;clear q;intro aa;go_wp2;go_ret;exact⟨by rw [aa.o];rfl,ae.o.mono fun b f _=>by have:=u.o;omega⟩
    |obtain⟨k',g1,g2,g3,g4,g5⟩:=v.o f
     clear f;refine hd4 ?_ g2 g3 g4 g5;clear g2 g3 g4 g5;intro am an ao ap;go_wp2;go_roundw
     case rel=>exact⟨k',g1,am.o,an.o,ao.o⟩
     case measure=>rw [ap.o,Y];omega
  ·obtain rfl:k=s.size:=by omega
   have aC: ∀ty,(Instr.next (.pointer (some ⟨N,0,none⟩)) true ty).run prog wr=_:=fun ty=>Lib.run_next_end_at wr N s s.size ty p t;have q:qcb s low=true:=qxr xz h64 (fun j c f=>m j c (by have:=(zA.1 f).1;rw [qii] at this;exact this) f);clear m p t Y;refine hd2 ?_ q hK;clear q hK;intro aa aq;go_wp2;go_ret;exact⟨by rw [aa.o];rfl,aq.o.mono fun b f _=>by have:=u.o;omega⟩
theorem q2v (s:ByteArray):qcb s false=qg9 s:=by unfold qcb qg9;rw [zF wC]
theorem q0i (s:ByteArray):qdi s=(qcb s true&&!qdz s):=by unfold qcb qdi;rw [zI rfl]
theorem qrh (s:ByteArray)(w:World):Calls prog 148 #[.string s] w fun e w'=>e=.returned (.bool (qdi s))/\wD w w':=by
 rw [q0i];have g:qf9.toList= [105,110,112,117,116]:=wA
 have h:qe0.toList= [111,117,116,112,117,116]:=wA
 have i:qjc.toList= [110,111,116]:=wA
 by_cases c:s=qf9
 ·have d:(qcb s true&&!qdz s)=false:=by rw [show qdz s=true from by unfold qdz;rw [zS c];rfl];simp
  have m:=qhs c;rw [g]at m;rw [d];clear d c g h i
  go_enter Tryz.func148,Tryz.ntmps148
  go_wp2_with fail;go_ret;exact⟨rfl,Keep.refl _ _⟩
 have m:=qfr c;rw [g]at m;by_cases f:s=qe0
 ·have d:(qcb s true&&!qdz s)=false:=by rw [show qdz s=true from by unfold qdz;rw [zS f];simp];simp
  have p:=qhs f;rw [h]at p;rw [d];clear d c f g h i
  go_enter Tryz.func148,Tryz.ntmps148
  go_wp2_with fail;go_ret;exact⟨rfl,Keep.refl _ _⟩
 have p:=qfr f;rw [h]at p;by_cases j:s=qjc
 ·have d:(qcb s true&&!qdz s)=false:=by rw [show qdz s=true from by unfold qdz;rw [zS j];simp];simp
  have q:=qhs j;rw [i]at q;rw [d];clear d c f j g h i
  go_enter Tryz.func148,Tryz.ntmps148
  go_wp2_with fail;go_ret;exact⟨rfl,Keep.refl _ _⟩
 have q:=qfr j;rw [i]at q;have u:qdz s=false:=by unfold qdz;rw [zM c,zM f,zM j];rfl
 rw [u,Bool.not_false,xJ];have t:=qll s true w;obtain⟨b,r⟩:=ex (qcb s true);rw [r]at t⊢;clear c f j u g h i;refine hd2 ?_ t r;clear t r;intro k x
 go_enter Tryz.func148,Tryz.ntmps148
 go_wp2_with fail;refine k.o.mono ?_;rintro e y ⟨rfl,v⟩;have l:=zg v;clear v;go_wp2_with fail;go_ret;exact⟨rfl,l.o⟩
theorem qio (t:TermD)(w:World):Calls prog 151 #[qc3 t] w fun e w'=>e=.returned (.bool (qa4 t))/\wD w w':=by
 obtain⟨v,s⟩:=t;unfold qc3;simp only;have f:=fun w=>qll s false w;have g:qa4 ⟨v,s⟩=if v then qg9 s else qga s:=rfl
 rw [←qme]at g;simp only [q2v]at f;obtain⟨k,c⟩: ∃b,qg9 s=b:=⟨_,rfl⟩;rw [c]at g;simp only [c]at f;refine hd3 ?_ f g c;clear f g c;intro h d i;cases v
 ·go_enter Tryz.func151,Tryz.ntmps151
  go_wp2_with fail;go_ret;exact⟨by rw [d.o];rfl,kAl⟩
 ·go_enter Tryz.func151,Tryz.ntmps151
  go_wp2_with fail;refine(h.o _).mono ?_;rintro e l ⟨rfl,j⟩;go_wp2_with fail;go_ret;exact⟨by rw [d.o];rfl,kAl.trans j⟩
theorem qn4 (t:TermD)(w:World):Calls prog 150 #[qc3 t] w fun e w'=>e=.returned (.bool (!qa4 t))/\wD w w':=by
 have h:=fun w=>qio t w;obtain⟨v,s⟩:=t;unfold qc3 at h⊢;simp only at h⊢;obtain⟨i,c⟩: ∃b,qa4 ⟨v,s⟩=b:=⟨_,rfl⟩;simp only [c]at h;rw [c];refine hd2 ?_ h c;clear h c;intro f d
 go_enter Tryz.func150,Tryz.ntmps150
 go_wp2_with fail;refine(f.o _).mono ?_;rintro e j ⟨rfl,g⟩;go_wp2_with fail;go_ret;exact⟨rfl,kAl.trans g⟩
theorem qlm (n:Nat)(a:qfx)(X:Value)(w:World)(R:qad n w X a.args)(hn:n<=w.heap.size):Calls prog 106 #[.agg #[.string a.pred,X]] w fun e w'=>e=.returned (.bool (qch a))/\Keep (fun b=>b<w.heap.size) w w':=by
 obtain⟨pr,args⟩:=a;simp only at R⊢;have h1:=fun w=>qrh pr w;have v:qch ⟨pr,args⟩=(qdi pr&&decide (args.length<=16)&&args.all qa4):=rfl;obtain⟨b1,l⟩: ∃b,qdi pr=b:=⟨_,rfl⟩;have i:=qkg qa4 args;obtain⟨b2,m⟩: ∃b,args.all qa4=b:=⟨_,rfl⟩;rw [m]at i;obtain⟨W0,g⟩:=ex (w.alloc (.cells #[.string pr,X] 24));have U:wD w W0:=by rw [←g];exact kAl
 have hz:=U.size;have h2:=fun W1 (hW1:wD W0 W1)=>qht (gf:=150) (bs:= #[]) (lb:= #[]) (qc0 Tryz.func150 wA rfl) (fun t=>!qa4 t) n X args W1 (qq R ((U.trans hW1).mt)) (by have:=hW1.size;omega)
  (fun x _ W _=>(qn4 x W).mono fun e w' ⟨e1,c⟩=>⟨e1,c.mt⟩)
 simp only [i]at h2;rw [l,m]at v;simp only [l]at h1;obtain⟨aa,ca,rfl,aq,ap,ag⟩:=id R;have z:W0.cell? ⟨w.heap.size,1,none⟩=some (.slice aa args.length ca):=by rw [←g];simp
 have l0:w.heap.size<W0.heap.size:=by rw [←g];simp
 clear ag R i;have p:decide (args.length<=16)=decide ((args.length:Int)<=16):=by rw [yi];omega
 rw [p]at v;obtain⟨b3,j⟩: ∃b,decide ((args.length:Int)<=16)=b:=⟨_,rfl⟩;rw [j]at v;clear p;refine hd7 ?_ h1 h2 v l m U g;clear h1 h2 v l m U g;intro q Y r ai aj k f;cases b1
 ·go_enter Tryz.func106,Tryz.ntmps106
  go_wp2_with fail;rw [f.o];refine(q.o _).mono ?_;rintro e y ⟨rfl,c⟩;have d:=zg c;clear c;go_wp2_with fail;go_ret;exact⟨by rw [r.o];rfl,(k.o.trans d.o).mt⟩
 ·cases b3
  ·have af: ¬(args.length:Int)<=16:=xS j;clear j
   go_enter Tryz.func106,Tryz.ntmps106
   go_wp2_with fail;rw [f.o];refine(q.o _).mono ?_;rintro e y ⟨rfl,c⟩;have ab:=c.cell z trivial;have ah:w.heap.size<y.heap.size:=by have:=c.size;omega
   have d:=zg c;clear c z;go_wp2_with fail;go_ret;exact⟨by rw [r.o];rfl,(k.o.trans d.o).mt⟩
  ·have af:(args.length:Int)<=16:=yD j;clear j
   go_enter Tryz.func106,Tryz.ntmps106
   go_wp2_with fail;rw [f.o];refine(q.o _).mono ?_;rintro e y ⟨rfl,c⟩;have ab:=c.cell z trivial;have ah:w.heap.size<y.heap.size:=by have:=c.size;omega
   have u:=Y.o y c;have d:=zg c;have s:=zg u;clear c z u;go_wp2_with fail;refine s.o.mono ?_;rintro e W1 ⟨rfl,k2⟩;go_wp2_with fail;go_ret;exact⟨by rw [r.o];cases b2<;>rfl,((k.o.trans d.o).mt).trans (k2.mono fun b hb h=>by have:=k.o.size;have:=d.o.size;omega)⟩
theorem qtq (n:Nat)(L:LitD)(sa:Value)(w:World)(ha:qad n w sa L.atom.args)(hn:n<=w.heap.size):Calls prog 109 #[qd0 L sa] w fun e w'=>e=.returned (.bool (qb3 L))/\Keep (fun b=>b<w.heap.size) w w':=by
 have ah:=fun W (hW:qad n W sa L.atom.args) (h2:n<=W.heap.size)=>qlm n L.atom sa W hW h2;have ak:=fun W=>qio L.left W;have al:=fun W=>qio L.right W;have ai:=fun W=>qh6 L.left qc4 W;have aj:=fun W=>qh6 L.right qc4 W;have hL:qb3 L=if L.kind=1∨L.kind=2 then qch L.atom&&decide (L.left=qc4)&&decide (L.right=qc4) else if L.kind=3 then decide (L.atom.pred=⟨#[]⟩)&&decide (L.atom.args.length=0)&&qa4 L.left&&qa4 L.right else false:=rfl
 obtain⟨bA,ay⟩: ∃b,qch L.atom=b:=⟨_,rfl⟩;obtain⟨ax,X⟩: ∃b,decide (L.left=qc4)=b:=⟨_,rfl⟩;obtain⟨aE,Y⟩: ∃b,decide (L.right=qc4)=b:=⟨_,rfl⟩;obtain⟨aF,ab⟩: ∃b,qa4 L.left=b:=⟨_,rfl⟩;obtain⟨aG,ad⟩: ∃b,qa4 L.right=b:=⟨_,rfl⟩;obtain⟨bl,az⟩: ∃b,qb3 L=b:=⟨_,rfl⟩;rw [az];rw [az,ay,X,Y,ab,ad]at hL;simp only [ay]at ah;simp only [ab]at ak;simp only [ad]at al;simp only [X]at ai;simp only [Y]at aj;clear az ay X Y ab ad;obtain⟨k,⟨pr,args⟩,⟨lv,lt⟩,⟨rv,rt⟩⟩:=L;unfold qd0;unfold qc3 qc4 at ai aj;unfold qc3 at ak al;simp only at*;obtain⟨aa,ca,rfl,aK,aJ,-⟩:=id ha;obtain⟨m,hm⟩:=ex (args.length);rw [hm]at hL ha ah aK aJ;rw [hm];obtain⟨nb,aA⟩:=ex (w.heap.size);obtain⟨W0,ag⟩:=ex (w.alloc (.cells #[.int .i64 k,.string pr,.slice aa m ca,.bool lv,.string lt,.bool rv,.string rt] 79));have k0:wD w W0:=by rw [←ag];exact kAl
 have b0:W0.heap[nb]?=some (.cells #[.int .i64 k,.string pr,.slice aa m ca,.bool lv,.string lt,.bool rv,.string rt] 79 (0,0)):=by rw [←ag,←aA];exact qh _ _
 have l0:=qe b0;have bc:=k0.size;have ar:=ah W0 (qq ha k0.mt) xz;have c0:=qb b0 0 _ rfl;have c1:=qb b0 1 _ rfl;have c2:=qb b0 2 _ rfl;have c3:=qb b0 3 _ rfl;have c4:=qb b0 4 _ rfl;have R:=qb b0 5 _ rfl;have U:=qb b0 6 _ rfl;simp only [zD]at c0 c1 c2 c3 c4 R U;clear ha ah aK aJ hm;refine hd8 ?_ hL ar ak al k0 ag aA b0;clear hL ar ak al k0 ag aA b0;intro av aw p z s g i a6;by_cases y:k=1∨k=2
 ·have aH:bl=(bA&&ax&&aE):=by rw [av.o,zI y]
  refine hd1 ?_ aH;clear aH;intro aC;rcases y with rfl |rfl
  all_goals cases bA
  all_goals (try cases ax)
  all_goals go_enter Tryz.func109,Tryz.ntmps109
  all_goals go_wp2_with fail
  all_goals rw [g.o,i.o]
  all_goals refine aw.o.mono ?_
  all_goals (rintro e W1 ⟨rfl,c⟩;have a7:=c.cell c3 l0;have a8:=c.cell c4 l0;have u:=c.cell R l0;have v:=c.cell U l0;have bf:=c.size;have am:nb<W1.heap.size:=xz;have kk:Keep (fun b=>b<nb) w W1:=s.o.mt.trans (c.mono fun b hb _=>xz);clear c c0 c1 c2 c3 c4 R U;have aS:=zg kk;clear kk)
  all_goals go_wp2_with fail
  all_goals go_ret
  all_goals exact⟨by rw [aC.o];(try cases ax)<;>(try cases aE)<;>rfl,aS.o.mono fun b hb h=>by have:=i.o;omega⟩
 ·by_cases e3:k=3
  ·have f:bl=(decide (pr=⟨#[]⟩)&&decide (m=0)&&aF&&aG):=by rw [av.o,zF y,zI e3]
   subst e3;clear ai aj;cases aF
   ·refine hd1 ?_ f;clear f;intro d
    go_enter Tryz.func109,Tryz.ntmps109
    go_wp2_with fail;rw [g.o,i.o];refine(p.o _).mono ?_;rintro e W1 ⟨rfl,c⟩;have l:=zg c;clear c;go_wp2_with fail;go_ret;exact⟨by rw [d.o,yN,yY];rfl,(s.o.trans l.o).mt⟩
   ·cases aG
    ·refine hd1 ?_ f;clear f;intro d
     go_enter Tryz.func109,Tryz.ntmps109
     go_wp2_with fail;rw [g.o,i.o];refine(p.o _).mono ?_;rintro e W1 ⟨rfl,c⟩;have u:=c.cell R trivial;have v:=c.cell U trivial;have am:nb<W1.heap.size:=by have:=c.size;omega
     have l:=zg c;clear c R U;go_wp2_with fail;refine(z.o _).mono ?_;rintro e W2 ⟨rfl,j⟩;have t:=zg j;clear j;go_wp2_with fail;go_ret;exact⟨by rw [d.o,yN];rfl,((s.o.trans l.o).trans t.o).mt⟩
    ·by_cases hp:pr=⟨#[]⟩
     ·subst hp;rw [show decide ((⟨#[]⟩:ByteArray)=⟨#[]⟩)=true from rfl,yT]at f;by_cases aL:m=0
      ·subst aL;refine hd1 ?_ f;clear f;intro d
       go_enter Tryz.func109,Tryz.ntmps109
       go_wp2_with fail;rw [g.o,i.o];refine(p.o _).mono ?_;rintro e W1 ⟨rfl,c⟩;have u:=c.cell R trivial;have v:=c.cell U trivial;have q:=c.cell c1 trivial;have r:=c.cell c2 trivial;have am:nb<W1.heap.size:=by have:=c.size;omega
       have l:=zg c;clear c R U c1 c2;go_wp2_with fail;refine(z.o _).mono ?_;rintro e W2 ⟨rfl,j⟩;have ao:=j.cell q trivial;have aq:=j.cell r trivial;have au:nb<W2.heap.size:=by have:=j.size;omega
       have t:=zg j;clear j q r u v;go_wp2_with fail;go_ret;exact⟨by rw [d.o];rfl,((s.o.trans l.o).trans t.o).mt⟩
      ·have ba:((m:Int)==0)=false:=by rw [yZ];omega
       rw [zM aL]at f;refine hd1 ?_ f;clear f;intro d
       go_enter Tryz.func109,Tryz.ntmps109
       go_wp2_with fail;rw [g.o,i.o];refine(p.o _).mono ?_;rintro e W1 ⟨rfl,c⟩;have u:=c.cell R trivial;have v:=c.cell U trivial;have q:=c.cell c1 trivial;have r:=c.cell c2 trivial;have am:nb<W1.heap.size:=by have:=c.size;omega
       have l:=zg c;clear c R U c1 c2;go_wp2_with fail;refine(z.o _).mono ?_;rintro e W2 ⟨rfl,j⟩;have ao:=j.cell q trivial;have aq:=j.cell r trivial;have au:nb<W2.heap.size:=by have:=j.size;omega
       have t:=zg j;clear j q r u v;go_wp2_with fail;go_ret;exact⟨by rw [d.o];rfl,((s.o.trans l.o).trans t.o).mt⟩
     ·have aY:=qmg hp;have bb:pr.toList.isEmpty=false:=by cases h:pr.toList with
       |nil=>exact absurd h aY
       |cons x xs=>rfl
      rw [zM hp]at f;clear hp;refine hd1 ?_ f;clear f;intro d
      go_enter Tryz.func109,Tryz.ntmps109
      go_wp2_with fail;rw [g.o,i.o];refine(p.o _).mono ?_;rintro e W1 ⟨rfl,c⟩;have u:=c.cell R trivial;have v:=c.cell U trivial;have q:=c.cell c1 trivial;have r:=c.cell c2 trivial;have am:nb<W1.heap.size:=by have:=c.size;omega
      have l:=zg c;clear c R U c1 c2;go_wp2_with fail;refine(z.o _).mono ?_;rintro e W2 ⟨rfl,j⟩;have ao:=j.cell q trivial;have aq:=j.cell r trivial;have au:nb<W2.heap.size:=by have:=j.size;omega
      have t:=zg j;clear j q r u v;go_wp2_with fail;go_ret;exact⟨by rw [d.o];rfl,((s.o.trans l.o).trans t.o).mt⟩
  ·have aI:bl=false:=by rw [av.o,zF y,zF e3]
   have f1: ¬k=1:=fun e=>y (.inl e);have f2: ¬k=2:=fun e=>y (.inr e);clear y ai aj;refine hd1 ?_ aI;clear aI;intro aD
   go_enter Tryz.func109,Tryz.ntmps109
   go_wp2_with fail;go_ret;exact⟨by rw [aD.o];rfl,by rw [g.o];exact s.o.mt⟩
theorem qpb (n:Nat)(L:LitD)(f:Value)(w:World)(d:qad n w f L.atom.args)(u:n<=w.heap.size):Calls prog 108 #[qd0 L f] w fun e w'=>e=.returned (.bool (!qb3 L))/\Keep (fun b=>b<w.heap.size) w w':=by
 have h:=fun W (hK:wD w W)=>qtq n L f W (qq d hK.mt) (by have:=hK.size;omega);obtain⟨q,s,rfl,-,-,-⟩:=id d;obtain⟨k,⟨pr,args⟩,⟨l,lt⟩,⟨p,m⟩⟩:=L;unfold qd0 at h⊢;simp only at h⊢;obtain⟨r,c⟩: ∃b,qb3 ⟨k,⟨pr,args⟩,⟨l,lt⟩,⟨p,m⟩⟩=b:=⟨_,rfl⟩;simp only [c]at h;rw [c];clear d;refine hd2 ?_ h c;clear h c;intro i g
 go_enter Tryz.func108,Tryz.ntmps108
 go_wp2_with fail;refine(i.o _ kAl).mono ?_;rintro e v ⟨rfl,j⟩;go_wp2_with fail;go_ret;exact⟨rfl,kAl.trans (j.mono fun b t _=>by simp;omega)⟩
theorem qpc:qoe:=by
 intro n r sh sb w hr hn;obtain⟨⟨pr,args⟩,body⟩:=r;obtain⟨U,p⟩:=hr;unfold qaz;simp only at U p⊢;have R:qak ⟨⟨pr,args⟩,body⟩=(decide (body.length<=256)&&qch ⟨pr,args⟩&&body.all qb3):=rfl;have t:=fun W (hK:wD w W)=>qlm n ⟨pr,args⟩ sh W (qq U hK.mt) (by have:=hK.size;omega);have k:=fun W (hK:Keep (fun b=>b<w.heap.size) w W)=>qj6 (gf:=108) (bs:= #[]) (lb:= #[]) (qc0 Tryz.func108 wA rfl) (fun L=>!qb3 L) n sb body W (qid p (hK.mono fun b _ h=>xz)) (by have:=hK.size;omega)
  (fun x _ W2 ad sa af=>(qpb n x sa W2 af (by have:=hK.size;have:=ad.size;omega)).mono fun e w' ⟨e1,d⟩=>⟨e1,d⟩)
 rw [qkg qb3 body]at k;obtain⟨bA,u⟩: ∃b,qch ⟨pr,args⟩=b:=⟨_,rfl⟩;obtain⟨bL,v⟩: ∃b,body.all qb3=b:=⟨_,rfl⟩;rw [u,v,show decide (body.length<=256)=decide ((body.length:Int)<=256) from by rw [yi];omega]at R;simp only [u]at t;simp only [v]at k;obtain⟨aa,ca,rfl,-,-,-⟩:=id U;obtain⟨ab,cb,rfl,aq,ap,-⟩:=id p;obtain⟨W0,i⟩:=ex (w.alloc (.cells #[.string pr,.slice aa args.length ca,.slice ab body.length cb] 27));have X:wD w W0:=by rw [←i];exact kAl
 have hz:=X.size;have z:W0.cell? ⟨w.heap.size,2,none⟩=some (.slice ab body.length cb):=by rw [←i];simp
 have l0:w.heap.size<W0.heap.size:=by rw [←i];simp
 have m:=t W0 X;clear U p u v t;obtain⟨b3,j⟩: ∃b,decide ((body.length:Int)<=256)=b:=⟨_,rfl⟩;rw [j]at R;refine hd5 ?_ R m k X i;clear R m k X i;intro q c y s g;cases bA
 ·go_enter Tryz.func57,Tryz.ntmps57
  go_wp2_with fail;rw [g.o];refine c.o.mono ?_;rintro e W1 ⟨rfl,d⟩;have l:Keep (fun b=>b<w.heap.size) w W1:=s.o.mt.trans (d.mono fun b p _=>xz);have f:=zg l;clear d l;go_wp2_with fail;go_ret;exact⟨by rw [q.o,yN,yY];rfl,f.o⟩
 ·cases b3
  ·have ae: ¬(body.length:Int)<=256:=xS j;clear j
   go_enter Tryz.func57,Tryz.ntmps57
   go_wp2_with fail;rw [g.o];refine c.o.mono ?_;rintro e W1 ⟨rfl,d⟩;have Y:=d.cell z l0;have ag:w.heap.size<W1.heap.size:=by have:=d.size;omega
   have l:Keep (fun b=>b<w.heap.size) w W1:=s.o.mt.trans (d.mono fun b p _=>xz);have f:=zg l;clear d l z;go_wp2_with fail;go_ret;exact⟨by rw [q.o];rfl,f.o⟩
  ·have ae:(body.length:Int)<=256:=yD j;clear j
   go_enter Tryz.func57,Tryz.ntmps57
   go_wp2_with fail;rw [g.o];refine c.o.mono ?_;rintro e W1 ⟨rfl,d⟩;have Y:=d.cell z l0;have ag:w.heap.size<W1.heap.size:=by have:=d.size;omega
   have l:Keep (fun b=>b<w.heap.size) w W1:=s.o.mt.trans (d.mono fun b p _=>xz);have au:=l.size;have f:=zg l;clear d l z;go_wp2_with fail;refine(y.o _ f.o).mono ?_;rintro e W2 ⟨rfl,k2⟩;go_wp2_with fail;go_ret;exact⟨by rw [q.o];cases bL<;>rfl,f.o.trans (k2.mono fun b p _=>xz)⟩
end Go.Proofs
