/- Parts of the proof. -/
import Derived.Test.YtnponcjnahicnaaGreatDoorCmEToRoA
import Derived.Laws.Cover1
set_option linter.unusedSimpArgs false
set_option linter.unusedVariables false
set_option maxRecDepth 100000
set_option maxHeartbeats 2000000
open Go.Proofs.Tryz(prog)
open List(foldl_cons nil_append)
namespace Go.Proofs
open Go.RowKit Go.Ink P16
attribute [local go_sem] Oper.semAt_some
theorem q6y (s:ByteArray):qcm s false=qh3 s:=by unfold qcm qh3;rw [zF wD]
theorem q35 (s:ByteArray):qdk s=(qcm s true&&!qeo s):=by unfold qcm qdk;rw [zI rfl]
theorem qtg (s:ByteArray)(w:World):Calls prog 148 #[.string s] w fun e w'=>e=.returned (.bool (qdk s))/\wE w w':=by
 rw [q35];have h:qg3.toList= [105,110,112,117,116]:=wB
 have l:qfx.toList= [111,117,116,112,117,116]:=wB
 have m:qj7.toList= [110,111,116]:=wB
 by_cases c:s=qg3
 ·have d:(qcm s true&&!qeo s)=false:=by rw [show qeo s=true from by unfold qeo;rw [zS c];rfl];simp
  have u:=qil c;rw [h]at u;rw [d];clear d c h l m
  go_enter Tryz.func148,Tryz.ntmps148
  go_wp2_with fail;go_ret;exact⟨rfl,Keep.refl _ _⟩
 have u:=qgn c;rw [h]at u;by_cases g:s=qfx
 ·have d:(qcm s true&&!qeo s)=false:=by rw [show qeo s=true from by unfold qeo;rw [zS g];simp];simp
  have v:=qil g;rw [l]at v;rw [d];clear d c g h l m
  go_enter Tryz.func148,Tryz.ntmps148
  go_wp2_with fail;go_ret;exact⟨rfl,Keep.refl _ _⟩
 have v:=qgn g;rw [l]at v;by_cases p:s=qj7
 ·have d:(qcm s true&&!qeo s)=false:=by rw [show qeo s=true from by unfold qeo;rw [zS p];simp];simp
  have x:=qil p;rw [m]at x;rw [d];clear d c g p h l m
  go_enter Tryz.func148,Tryz.ntmps148
  go_wp2_with fail;go_ret;exact⟨rfl,Keep.refl _ _⟩
 have x:=qgn p;rw [m]at x;have R:qeo s=false:=by unfold qeo;rw [zM c,zM g,zM p];rfl
 rw [R,Bool.not_false,xK];have z:=qmm s true w;obtain⟨b,y⟩:=ex (qcm s true);rw [y]at z⊢;clear c g p R h l m;refine hd2 ?_ z y;clear z y;intro q Y
 go_enter Tryz.func148,Tryz.ntmps148
 go_wp2_with fail;refine q.o.mono ?_;rintro e w1 ⟨rfl,U⟩;have t:=zg U;clear U;go_wp2_with fail;go_ret;exact⟨rfl,t.o⟩
theorem qjj (t:TermD)(w:World):Calls prog 151 #[qcy t] w fun e w'=>e=.returned (.bool (qbc t))/\wE w w':=by
 obtain⟨v,s⟩:=t;unfold qcy;simp only;have g:=fun w=>qmm s false w;have h:qbc ⟨v,s⟩=if v then qh3 s else qg4 s:=rfl
 rw [←qnv]at h;simp only [q6y]at g;obtain⟨q,c⟩: ∃b,qh3 s=b:=⟨_,rfl⟩;rw [c]at h;simp only [c]at g;refine hd3 ?_ g h c;clear g h c;intro l d m;cases v
 ·go_enter Tryz.func151,Tryz.ntmps151
  go_wp2_with fail;go_ret;exact⟨by rw [d.o];rfl,kAl⟩
 ·go_enter Tryz.func151,Tryz.ntmps151
  go_wp2_with fail;refine(l.o _).mono ?_;rintro e u ⟨rfl,p⟩;go_wp2_with fail;go_ret;exact⟨by rw [d.o];rfl,kAl.trans p⟩
theorem qpp (t:TermD)(w:World):Calls prog 150 #[qcy t] w fun e w'=>e=.returned (.bool (!qbc t))/\wE w w':=by
 have h:=fun w=>qjj t w;obtain⟨v,s⟩:=t;unfold qcy at h⊢;simp only at h⊢;obtain⟨m,c⟩: ∃b,qbc ⟨v,s⟩=b:=⟨_,rfl⟩;simp only [c]at h;rw [c];refine hd2 ?_ h c;clear h c;intro g d
 go_enter Tryz.func150,Tryz.ntmps150
 go_wp2_with fail;refine(g.o _).mono ?_;rintro e p ⟨rfl,l⟩;go_wp2_with fail;go_ret;exact⟨rfl,kAl.trans l⟩
theorem qmu (n:Nat)(a:qcg)(sa:Value)(w:World)(ha:qak n w sa a.args)(hn:n<=w.heap.size):Calls prog 106 #[.agg #[.string a.pred,sa]] w fun e w'=>e=.returned (.bool (qcz a))/\Keep (fun b=>b<w.heap.size) w w':=by
 obtain⟨pr,args⟩:=a;simp only at ha⊢;have h1:=fun w=>qtg pr w;have Y:qcz ⟨pr,args⟩=(qdk pr&&decide (args.length<=16)&&args.all qbc):=rfl;obtain⟨b1,s⟩: ∃b,qdk pr=b:=⟨_,rfl⟩;have m:=qlk qbc args;obtain⟨b2,u⟩: ∃b,args.all qbc=b:=⟨_,rfl⟩;rw [u]at m;obtain⟨W0,l⟩:=ex (w.alloc (.cells #[.string pr,sa] 24));have k0:wE w W0:=by rw [←l];exact kAl
 have hz:=k0.size;have h2:=fun W1 (hW1:wE W0 W1)=>qim (gf:=150) (bs:= #[]) (lb:= #[]) (qd6 Tryz.func150 wB rfl) (fun t=>!qbc t) n sa args W1 (qan ha ((k0.trans hW1).mt)) (by have:=hW1.size;omega)
  (fun x _ W _=>(qpp x W).mono fun e w' ⟨e1,c⟩=>⟨e1,c.mt⟩)
 simp only [m]at h2;rw [s,u]at Y;simp only [s]at h1;obtain⟨aa,ca,rfl,ay,ax,am⟩:=id ha;have c1:W0.cell? ⟨w.heap.size,1,none⟩=some (.slice aa args.length ca):=by rw [←l];simp
 have l0:w.heap.size<W0.heap.size:=by rw [←l];simp
 clear am ha m;have v:decide (args.length<=16)=decide ((args.length:Int)<=16):=by rw [yj];omega
 rw [v]at Y;obtain⟨b3,p⟩: ∃b,decide ((args.length:Int)<=16)=b:=⟨_,rfl⟩;rw [p]at Y;clear v;refine hd7 ?_ h1 h2 Y s u k0 l;clear h1 h2 Y s u k0 l;intro y ah z ao ap q g;cases b1
 ·go_enter Tryz.func106,Tryz.ntmps106
  go_wp2_with fail;rw [g.o];refine(y.o _).mono ?_;rintro e w1 ⟨rfl,c⟩;have d:=zg c;clear c;go_wp2_with fail;go_ret;exact⟨by rw [z.o];rfl,(q.o.trans d.o).mt⟩
 ·cases b3
  ·have al: ¬(args.length:Int)<=16:=xT p;clear p
   go_enter Tryz.func106,Tryz.ntmps106
   go_wp2_with fail;rw [g.o];refine(y.o _).mono ?_;rintro e w1 ⟨rfl,c⟩;have ai:=c.cell c1 trivial;have an:w.heap.size<w1.heap.size:=by have:=c.size;omega
   have d:=zg c;clear c c1;go_wp2_with fail;go_ret;exact⟨by rw [z.o];rfl,(q.o.trans d.o).mt⟩
  ·have al:(args.length:Int)<=16:=yE p;clear p
   go_enter Tryz.func106,Tryz.ntmps106
   go_wp2_with fail;rw [g.o];refine(y.o _).mono ?_;rintro e w1 ⟨rfl,c⟩;have ai:=c.cell c1 trivial;have an:w.heap.size<w1.heap.size:=by have:=c.size;omega
   have U:=ah.o w1 c;have d:=zg c;have R:=zg U;clear c c1 U;go_wp2_with fail;refine R.o.mono ?_;rintro e W1 ⟨rfl,k2⟩;go_wp2_with fail;go_ret;exact⟨by rw [z.o];cases b2<;>rfl,((q.o.trans d.o).mt).trans (k2.mono fun b hb h=>by have:=q.o.size;have:=d.o.size;omega)⟩
theorem qvx (n:Nat)(L:LitD)(sa:Value)(w:World)(ha:qak n w sa L.atom.args)(hn:n<=w.heap.size):Calls prog 109 #[qep L sa] w fun e w'=>e=.returned (.bool (qcj L))/\Keep (fun b=>b<w.heap.size) w w':=by
 have am:=fun W (hW:qak n W sa L.atom.args) (h2:n<=W.heap.size)=>qmu n L.atom sa W hW h2;have ap:=fun W=>qjj L.left W;have aq:=fun W=>qjj L.right W;have an:=fun W=>qi1 L.left qdl W;have ao:=fun W=>qi1 L.right qdl W;have hL:qcj L=if L.kind=1∨L.kind=2 then qcz L.atom&&decide (L.left=qdl)&&decide (L.right=qdl) else if L.kind=3 then decide (L.atom.pred=⟨#[]⟩)&&decide (L.atom.args.length=0)&&qbc L.left&&qbc L.right else false:=rfl
 obtain⟨bA,aD⟩: ∃b,qcz L.atom=b:=⟨_,rfl⟩;obtain⟨aC,af⟩: ∃b,decide (L.left=qdl)=b:=⟨_,rfl⟩;obtain⟨aJ,ag⟩: ∃b,decide (L.right=qdl)=b:=⟨_,rfl⟩;obtain⟨aK,ah⟩: ∃b,qbc L.left=b:=⟨_,rfl⟩;obtain⟨aL,ai⟩: ∃b,qbc L.right=b:=⟨_,rfl⟩;obtain⟨bl,aE⟩: ∃b,qcj L=b:=⟨_,rfl⟩;rw [aE];rw [aE,aD,af,ag,ah,ai]at hL;simp only [aD]at am;simp only [ah]at ap;simp only [ai]at aq;simp only [af]at an;simp only [ag]at ao;clear aE aD af ag ah ai;obtain⟨k,⟨pr,args⟩,⟨lv,lt⟩,⟨rv,rt⟩⟩:=L;unfold qep;unfold qcy qdl at an ao;unfold qcy at ap aq;simp only at*;obtain⟨aa,ca,rfl,aP,aO,-⟩:=id ha;obtain⟨m,hm⟩:=ex (args.length);rw [hm]at hL ha am aP aO;rw [hm];obtain⟨nb,aF⟩:=ex (w.heap.size);obtain⟨W0,al⟩:=ex (w.alloc (.cells #[.int .i64 k,.string pr,.slice aa m ca,.bool lv,.string lt,.bool rv,.string rt] 79));have k0:wE w W0:=by rw [←al];exact kAl
 have b0:W0.heap[nb]?=some (.cells #[.int .i64 k,.string pr,.slice aa m ca,.bool lv,.string lt,.bool rv,.string rt] 79 (0,0)):=by rw [←al,←aF];exact qh _ _
 have l0:=qe b0;have bi:=k0.size;have ay:=am W0 (qan ha k0.mt) wA;have c0:=qb b0 0 _ rfl;have c1:=qb b0 1 _ rfl;have c2:=qb b0 2 _ rfl;have c3:=qb b0 3 _ rfl;have c4:=qb b0 4 _ rfl;have c5:=qb b0 5 _ rfl;have c6:=qb b0 6 _ rfl;simp only [zD]at c0 c1 c2 c3 c4 c5 c6;clear ha am aP aO hm;refine hd8 ?_ hL ay ap aq k0 al aF b0;clear hL ay ap aq k0 al aF b0;intro aA aB t ab y l p bb;by_cases Y:k=1∨k=2
 ·have aM:bl=(bA&&aC&&aJ):=by rw [aA.o,zI Y]
  refine hd1 ?_ aM;clear aM;intro aH;rcases Y with rfl |rfl
  all_goals cases bA
  all_goals (try cases aC)
  all_goals go_enter Tryz.func109,Tryz.ntmps109
  all_goals go_wp2_with fail
  all_goals rw [l.o,p.o]
  all_goals refine aB.o.mono ?_
  all_goals (rintro e W1 ⟨rfl,c⟩;have bc:=c.cell c3 l0;have bd:=c.cell c4 l0;have R:=c.cell c5 l0;have U:=c.cell c6 l0;have bj:=c.size;have ar:nb<W1.heap.size:=wA;have kk:Keep (fun b=>b<nb) w W1:=y.o.mt.trans (c.mono fun b hb _=>wA);clear c c0 c1 c2 c3 c4 c5 c6;have aX:=zg kk;clear kk)
  all_goals go_wp2_with fail
  all_goals go_ret
  all_goals exact⟨by rw [aH.o];(try cases aC)<;>(try cases aJ)<;>rfl,aX.o.mono fun b hb h=>by have:=p.o;omega⟩
 ·by_cases e3:k=3
  ·have g:bl=(decide (pr=⟨#[]⟩)&&decide (m=0)&&aK&&aL):=by rw [aA.o,zF Y,zI e3]
   subst e3;clear an ao;cases aK
   ·refine hd1 ?_ g;clear g;intro d
    go_enter Tryz.func109,Tryz.ntmps109
    go_wp2_with fail;rw [l.o,p.o];refine(t.o _).mono ?_;rintro e W1 ⟨rfl,c⟩;have s:=zg c;clear c;go_wp2_with fail;go_ret;exact⟨by rw [d.o,yO,yZ];rfl,(y.o.trans s.o).mt⟩
   ·cases aL
    ·refine hd1 ?_ g;clear g;intro d
     go_enter Tryz.func109,Tryz.ntmps109
     go_wp2_with fail;rw [l.o,p.o];refine(t.o _).mono ?_;rintro e W1 ⟨rfl,c⟩;have R:=c.cell c5 trivial;have U:=c.cell c6 trivial;have ar:nb<W1.heap.size:=by have:=c.size;omega
     have s:=zg c;clear c c5 c6;go_wp2_with fail;refine(ab.o _).mono ?_;rintro e W2 ⟨rfl,q⟩;have z:=zg q;clear q;go_wp2_with fail;go_ret;exact⟨by rw [d.o,yO];rfl,((y.o.trans s.o).trans z.o).mt⟩
    ·by_cases hp:pr=⟨#[]⟩
     ·subst hp;rw [show decide ((⟨#[]⟩:ByteArray)=⟨#[]⟩)=true from rfl,yU]at g;by_cases aQ:m=0
      ·subst aQ;refine hd1 ?_ g;clear g;intro d
       go_enter Tryz.func109,Tryz.ntmps109
       go_wp2_with fail;rw [l.o,p.o];refine(t.o _).mono ?_;rintro e W1 ⟨rfl,c⟩;have R:=c.cell c5 trivial;have U:=c.cell c6 trivial;have u:=c.cell c1 trivial;have v:=c.cell c2 trivial;have ar:nb<W1.heap.size:=by have:=c.size;omega
       have s:=zg c;clear c c5 c6 c1 c2;go_wp2_with fail;refine(ab.o _).mono ?_;rintro e W2 ⟨rfl,q⟩;have av:=q.cell u trivial;have ax:=q.cell v trivial;have az:nb<W2.heap.size:=by have:=q.size;omega
       have z:=zg q;clear q u v R U;go_wp2_with fail;go_ret;exact⟨by rw [d.o];rfl,((y.o.trans s.o).trans z.o).mt⟩
      ·have bg:((m:Int)==0)=false:=by rw [y7];omega
       rw [zM aQ]at g;refine hd1 ?_ g;clear g;intro d
       go_enter Tryz.func109,Tryz.ntmps109
       go_wp2_with fail;rw [l.o,p.o];refine(t.o _).mono ?_;rintro e W1 ⟨rfl,c⟩;have R:=c.cell c5 trivial;have U:=c.cell c6 trivial;have u:=c.cell c1 trivial;have v:=c.cell c2 trivial;have ar:nb<W1.heap.size:=by have:=c.size;omega
       have s:=zg c;clear c c5 c6 c1 c2;go_wp2_with fail;refine(ab.o _).mono ?_;rintro e W2 ⟨rfl,q⟩;have av:=q.cell u trivial;have ax:=q.cell v trivial;have az:nb<W2.heap.size:=by have:=q.size;omega
       have z:=zg q;clear q u v R U;go_wp2_with fail;go_ret;exact⟨by rw [d.o];rfl,((y.o.trans s.o).trans z.o).mt⟩
     ·have a3:=qnx hp;have bh:pr.toList.isEmpty=false:=by cases h:pr.toList with
       |nil=>exact absurd h a3
       |cons x xs=>rfl
      rw [zM hp]at g;clear hp;refine hd1 ?_ g;clear g;intro d
      go_enter Tryz.func109,Tryz.ntmps109
      go_wp2_with fail;rw [l.o,p.o];refine(t.o _).mono ?_;rintro e W1 ⟨rfl,c⟩;have R:=c.cell c5 trivial;have U:=c.cell c6 trivial;have u:=c.cell c1 trivial;have v:=c.cell c2 trivial;have ar:nb<W1.heap.size:=by have:=c.size;omega
      have s:=zg c;clear c c5 c6 c1 c2;go_wp2_with fail;refine(ab.o _).mono ?_;rintro e W2 ⟨rfl,q⟩;have av:=q.cell u trivial;have ax:=q.cell v trivial;have az:nb<W2.heap.size:=by have:=q.size;omega
      have z:=zg q;clear q u v R U;go_wp2_with fail;go_ret;exact⟨by rw [d.o];rfl,((y.o.trans s.o).trans z.o).mt⟩
  ·have aN:bl=false:=by rw [aA.o,zF Y,zF e3]
   have f1: ¬k=1:=fun e=>Y (.inl e);have f2: ¬k=2:=fun e=>Y (.inr e);clear Y an ao;refine hd1 ?_ aN;clear aN;intro aI
   go_enter Tryz.func109,Tryz.ntmps109
   go_wp2_with fail;go_ret;exact⟨by rw [aI.o];rfl,by rw [l.o];exact y.o.mt⟩
theorem qq5 (n:Nat)(L:LitD)(g:Value)(w:World)(d:qak n w g L.atom.args)(z:n<=w.heap.size):Calls prog 108 #[qep L g] w fun e w'=>e=.returned (.bool (!qcj L))/\Keep (fun b=>b<w.heap.size) w w':=by
 have h:=fun W (hK:wE w W)=>qvx n L g W (qan d hK.mt) (by have:=hK.size;omega);obtain⟨u,x,rfl,-,-,-⟩:=id d;obtain⟨k,⟨pr,args⟩,⟨q,lt⟩,⟨t,s⟩⟩:=L;unfold qep at h⊢;simp only at h⊢;obtain⟨v,c⟩: ∃b,qcj ⟨k,⟨pr,args⟩,⟨q,lt⟩,⟨t,s⟩⟩=b:=⟨_,rfl⟩;simp only [c]at h;rw [c];clear d;refine hd2 ?_ h c;clear h c;intro m l
 go_enter Tryz.func108,Tryz.ntmps108
 go_wp2_with fail;refine(m.o _ kAl).mono ?_;rintro e R ⟨rfl,p⟩;go_wp2_with fail;go_ret;exact⟨rfl,kAl.trans (p.mono fun b y _=>by simp;omega)⟩
theorem qq6:qp0:=by
 intro n r sh sb w hr hn;obtain⟨⟨pr,args⟩,body⟩:=r;obtain⟨hh,u⟩:=hr;unfold qaq;simp only at hh u⊢;have hE:qat ⟨⟨pr,args⟩,body⟩=(decide (body.length<=256)&&qcz ⟨pr,args⟩&&body.all qcj):=rfl;have z:=fun W (hK:wE w W)=>qmu n ⟨pr,args⟩ sh W (qan hh hK.mt) (by have:=hK.size;omega);have q:=fun W (hK:Keep (fun b=>b<w.heap.size) w W)=>qla (gf:=108) (bs:= #[]) (lb:= #[]) (qd6 Tryz.func108 wB rfl) (fun L=>!qcj L) n sb body W (qi8 u (hK.mono fun b _ h=>wA)) (by have:=hK.size;omega)
  (fun x _ W2 ai sa ak=>(qq5 n x sa W2 ak (by have:=hK.size;have:=ai.size;omega)).mono fun e w' ⟨e1,d⟩=>⟨e1,d⟩)
 rw [qlk qcj body]at q;obtain⟨bA,R⟩: ∃b,qcz ⟨pr,args⟩=b:=⟨_,rfl⟩;obtain⟨bL,U⟩: ∃b,body.all qcj=b:=⟨_,rfl⟩;rw [R,U,show decide (body.length<=256)=decide ((body.length:Int)<=256) from by rw [yj];omega]at hE;simp only [R]at z;simp only [U]at q;obtain⟨aa,ca,rfl,-,-,-⟩:=id hh;obtain⟨ab,cb,rfl,ax,aw,-⟩:=id u;obtain⟨W0,m⟩:=ex (w.alloc (.cells #[.string pr,.slice aa args.length ca,.slice ab body.length cb] 27));have k0:wE w W0:=by rw [←m];exact kAl
 have hz:=k0.size;have c2:W0.cell? ⟨w.heap.size,2,none⟩=some (.slice ab body.length cb):=by rw [←m];simp
 have l0:w.heap.size<W0.heap.size:=by rw [←m];simp
 have t:=z W0 k0;clear hh u R U z;obtain⟨b3,p⟩: ∃b,decide ((body.length:Int)<=256)=b:=⟨_,rfl⟩;rw [p]at hE;refine hd5 ?_ hE t q k0 m;clear hE t q k0 m;intro v c Y y l;cases bA
 ·go_enter Tryz.func57,Tryz.ntmps57
  go_wp2_with fail;rw [l.o];refine c.o.mono ?_;rintro e W1 ⟨rfl,d⟩;have s:Keep (fun b=>b<w.heap.size) w W1:=y.o.mt.trans (d.mono fun b u _=>wA);have g:=zg s;clear d s;go_wp2_with fail;go_ret;exact⟨by rw [v.o,yO,yZ];rfl,g.o⟩
 ·cases b3
  ·have aj: ¬(body.length:Int)<=256:=xT p;clear p
   go_enter Tryz.func57,Tryz.ntmps57
   go_wp2_with fail;rw [l.o];refine c.o.mono ?_;rintro e W1 ⟨rfl,d⟩;have ah:=d.cell c2 l0;have al:w.heap.size<W1.heap.size:=by have:=d.size;omega
   have s:Keep (fun b=>b<w.heap.size) w W1:=y.o.mt.trans (d.mono fun b u _=>wA);have g:=zg s;clear d s c2;go_wp2_with fail;go_ret;exact⟨by rw [v.o];rfl,g.o⟩
  ·have aj:(body.length:Int)<=256:=yE p;clear p
   go_enter Tryz.func57,Tryz.ntmps57
   go_wp2_with fail;rw [l.o];refine c.o.mono ?_;rintro e W1 ⟨rfl,d⟩;have ah:=d.cell c2 l0;have al:w.heap.size<W1.heap.size:=by have:=d.size;omega
   have s:Keep (fun b=>b<w.heap.size) w W1:=y.o.mt.trans (d.mono fun b u _=>wA);have az:=s.size;have g:=zg s;clear d s c2;go_wp2_with fail;refine(Y.o _ g.o).mono ?_;rintro e W2 ⟨rfl,k2⟩;go_wp2_with fail;go_ret;exact⟨by rw [v.o];cases bL<;>rfl,g.o.trans (k2.mono fun b u _=>wA)⟩
end Go.Proofs
namespace Go.Proofs
open Go.RowKit Go.Ink Go.Flt R4 P16
theorem qsx {r:RuleD}(h:qat r=true): ∀L,L∈r.body->qm L=L.terms:=fun L c=>by
 have b:=(qb5 h).2.2 L c;unfold qcj at b;unfold qm LitD.terms;split at b
 ·rename_i hk;rw [zF wA,zI hk]
 ·rename_i hk;split at b
  ·rename_i h3;rw [zI h3,zF hk,zI h3]
  ·cases b
theorem qsy (ts:List TermD): ∀vars,qa8 vars ts=((ts.filter (·.var)).map (·.text)).foldl qo vars:=by
 induction ts with
 |nil=>intro vars;rfl
 |cons t ts ih=>
  intro vars;show qa8 (if t.var=true then qo vars t.text else vars) ts=_;rw [ih];by_cases b:t.var=true
  ·rw [zI b,xV b];rfl
  ·rw [zF b,xf b]
theorem qhi {r:RuleD}(h:qat r=true):qbw r r.body.length=qu r:=by
 unfold qbw qu;rw [zi,qjx];have c: ∀(l:List LitD) (b:List ByteArray),(∀L,L∈l->qm L=L.terms)->l.foldl (fun b L=>qa8 b (qm L)) b=(l.flatMap LitD.uses).foldl qo b:=by
  intro l
  induction l with
  |nil=>intro b _;rfl
  |cons L l ih=>
   intro b d;rw [foldl_cons,ih _ (fun x e=>d x (yD _ e)),yF,yl,d L (yJ ..),qsy]
   rfl
 rw [c _ _ (qsx h),qsy];unfold qa9;rw [yl]
 rfl
theorem qq7 {r:RuleD}(h:S12.looseOf r=none): ∀x,x∈r.names->x∈qcf r.body:=fun x b=>by
 have:=yn.1 h x b
 simpa using this
theorem q36 {body:List LitD}{x:ByteArray}(h:x∈qcf body):x∈q8 body (qao body):=by
 unfold qcf at h;rw [qeh,xD]at h;obtain⟨L,b,d⟩:=h;rw [yV]at b;obtain⟨i,hi⟩:=zy.1 b.1;have e:L.kind=1:=by simpa using b.2
 have c:=(zA.1 hi).1;rw [qgl];refine⟨i,?_,?_,?_⟩
 ·unfold qao;rw [yV,yi,qkj hi];exact⟨c,by simp [e]⟩
 ·rw [qkj hi];omega
 ·rw [zJ,hi];unfold LitD.uses LitD.terms at d;rw [zI (.inl e)]at d;exact d
theorem qxp {x:ByteArray}: ∀(l:List LitD) (K:List ByteArray),(x∈K∨ ∃L,L∈l/\L.kind=1/\x∈(L.atom.args.filter (·.var)).map (·.text))->x∈l.foldl (fun K L=>if L.kind=1 then K++qb8 K L.atom.args else K) K:=by
 intro l
 induction l with
 |nil=>
  intro K h;rcases h with h |⟨L,h,-⟩
  ·exact h
  ·cases h
 |cons M l ih=>
  intro K h;rw [foldl_cons];refine ih _ ?_;rcases h with h |⟨L,hL,hk,hx⟩
  ·left;split
   ·exact xd _ h
   ·exact h
  ·rcases zw.1 hL with rfl |hL
   ·left;rw [zI hk,zr]
    by_cases hK:x∈K
    ·exact .inl hK
    ·right;obtain⟨t,b,rfl⟩:=yL.1 hx
     rw [yV]at b;unfold qb8;rw [qeh];refine yL.2 ⟨t,yV.2 ⟨b.1,?_⟩,rfl⟩;unfold qcp;rw [b.2,zM hK]
     rfl
   ·exact .inr ⟨L,hL,hk,hx⟩
theorem q8s {body:List LitD}{x:ByteArray}(h:x∈qcf body):x∈qbt body:=by
 unfold qcf at h;rw [qeh,xD]at h;obtain⟨L,b,c⟩:=h;rw [yV]at b;have d:L.kind=1:=by simpa using b.2
 unfold LitD.uses LitD.terms at c;rw [zI (.inl d)]at c;unfold qbt;exact qxp _ _ (.inr ⟨L,b.1,d,c⟩)
theorem q0x {r:RuleD}(g:qat r=true)(h:S12.looseOf r=none):qed r=true:=by
 have m:=qq7 h;have b: ∀L t,L∈r.lits->t∈L.terms->qcp (qbt r.body) t=false:=fun L t d c=>by
  unfold qcp;cases p:t.var with
  |false=>rfl
  |true=>
   rw [zS (q8s (m _ (ql1 d c p)))]
   rfl
 unfold qed;rw [zV,xJ,yM];refine⟨xZ.2 fun t c=>?_,fun L d=>?_⟩
 ·rw [b r.headLit t (yJ ..) (by unfold LitD.terms RuleD.headLit;rw [zI (.inl rfl)];exact c)];simp
 ·unfold qc2;by_cases l:L.kind=1
  ·rw [zS l];rfl
  ·rw [y8];right;rw [xJ];refine xZ.2 fun t c=>?_;have e:qfa L=L.terms:=by rw [←qsx g L d];rfl
   rw [e]at c;rw [b L t (yD _ d) c];simp
theorem q8t {r:RuleD}(h:qds r=0):qc1 r/\qat r=true/\S12.looseOf r=none:=by
 have c:qat r=true:=by
  cases b:qat r with
  |true=>rfl
  |false=>unfold qds at h;rw [b,zF wC] at h;cases h
 have g:S12.looseOf r=none:=by
  cases b:S12.looseOf r with
  |none=>rfl
  |some x=>unfold qds at h;rw [c,zI rfl,b,zF wC] at h;cases h
 refine⟨⟨c,q0x c g,fun x m=>q36 (qq7 g x m),fun L t d l=>qp1 c L d t l,fun L d=>?_,fun e=>?_⟩,c,g⟩
 ·have b:=(qb5 c).2.2 L d;unfold qcj at b;split at b
  ·simp only [zV]at b;have:=(qgg b.1.1).1;unfold qdk qbv at this;simp only [zV,zT]at this;omega
  ·split at b
   ·simp only [zV,zT]at b;rw [b.1.1.1];exact ya _
   ·cases b
 ·have:=(qgg (qb5 c).2.1).1;unfold qdk qbv at this;simp only [zV,zT]at this;rw [e]at this;exact absurd this.1.1.2.1 wD
theorem qkt {n:Nat}{r:RuleD}{sh sb:Value}{w:World}(q:RuleIn n w sh sb r)(p:n<=w.heap.size):
  Calls prog 9 #[qaq r sh sb] w fun e w'=>Keep (fun b=>b<w.heap.size) w w'/\((qds r≠0/\e=.returned (.tuple #[.pointer none,.int .i64 (qds r)]))∨(qc1 r/\ ∃J vha vb vv va vt vh,e=.returned (.tuple #[qk J,.int .i64 0])/\
   JoinAt (fun b=>w.heap.size<=b/\b<w'.heap.size) w'.heap.size w' J r (qu r) (qex r.body r.body.length) vha vb vv va vt vh)):=by
 refine(qwo qq6 q p).mono ?_;rintro e w' ⟨d,c |⟨c,J,vha,vb,vv,va,vt,vh,h,g⟩⟩
 ·exact⟨d,.inl c⟩
 ·obtain⟨l,m,-⟩:=q8t c;rw [qhi m]at g;exact⟨d,.inr ⟨l,J,vha,vb,vv,va,vt,vh,h,g⟩⟩
end Go.Proofs
namespace Go.Proofs
open Go.RowKit Go.Ink Go.Flt R4 P16
attribute [local go_sem] Oper.semAt_some
theorem qn2 {m:Nat}{w:World}{a:Option Addr}{c:Nat}{ts:List ByteArray}(h:qaf m w (.slice a ts.length c) ts):(∀b,a=some b-> ∀j u,(ts.map Value.string)[j]?=some u->w.cell? (b.add j)=some u)/\(a=none->ts.length=0):=by
 obtain⟨a',z,y,U,R,s⟩:=h;injection y with h1 h2 h3
 subst h1;refine⟨fun b t j u d=>?_,fun h=>?_⟩
 ·rw [zP]at d;cases p:ts[j]? with
  |none=>rw [p] at d;cases d
  |some x=>
   rw [p]at d;cases d;obtain⟨q,o,e,v,g⟩:=s j x p;rw [t]at e;cases e;unfold qgq at g;rw [yB]at g;rw [show((⟨q,o,none⟩:Addr).add j)=⟨q,o+j,none⟩ from by unfold Addr.add;split<;>simp_all];exact g
 ·cases l:ts with
  |nil=>rfl
  |cons x xs=>
   obtain⟨b,o,e,-⟩:=s 0 x (by rw [l];rfl);rw [h]at e;cases e
theorem qn3 (ts:List ByteArray): ∀u∈ts.map Value.string,u.oneCell'=true:=fun u b=>by
 obtain⟨x,_,rfl⟩:=yL.1 b;simp [Value.oneCell']
theorem qvy {w:World}{m:Nat}{v:Value}{ts:List ByteArray}(h:qaf m w v ts)(hm:m<=w.heap.size):Calls prog 87 #[v] w fun e w'=> ∃v',e=.returned v'/\w'.ownsRow w.heap.size 9 1 v' ts.length (ts.map .string)/\wE w w':=by
 obtain⟨a,c,rfl,hl,hc,he⟩:=id h;obtain⟨hs,Y⟩:=qn2 h;obtain⟨W0,d⟩:=ex (w.alloc (.cells #[] 9));have q:wE w W0:=by rw [←d];exact kAl
 have z:=qfc w 9 1;rw [d]at z;obtain⟨v',W1,y,ho,R,U⟩:=qhx (P:=prog) qef 60 z a ts.length c (ts.map .string) wC (fun b' x j u hj=>q.cell (hs b' x j u hj) wF) Y (qn3 ts) wA q.size;rw [nil_append,zD]at ho;have l:Keep (fun b=>b<w.heap.size) w W1:=q.mt.trans (U.mono fun b _ h e=>by
  rcases R b e with h1 |h1
  ·simp [Value.ownBlock]at h1;omega
  ·have:=q.size;omega)
 have p:wE w W1:=l.mono fun b x _=>x;rw [←d]at y;obtain⟨a',c',rfl⟩:=qi ho;clear hs Y R U l q z d he h;refine hd3 ?_ y ho p;clear y ho p;intro t s g
 go_enter Tryz.func87,Tryz.ntmps87
 go_wp2_with (at_builtin;refine qbo (v:=.slice (some ⟨w.heap.size,0,none⟩) 0 0) (u:=.slice a ts.length c) (v':=.slice a' ts.length c') (w':=W1) rfl (.tmp 3) (.tmp 4) 60 rfl rfl rfl t.o ?_);go_ret;exact⟨_,rfl,s.o,g.o⟩
theorem qxq {w:World}{m:Nat}{v:Value}(p:ByteArray){ts:List ByteArray}(h:qaf m w v ts)(hm:m<=w.heap.size):Calls prog 64 #[.agg #[.string p,v]] w fun e w'=> ∃v',e=.returned (.agg #[.string p,v'])/\w'.ownsRow w.heap.size 9 1 v' ts.length (ts.map .string)/\wE w w':=by
 obtain⟨a,c,rfl,hl,hc,he⟩:=id h;obtain⟨N,hN⟩:=ex (w.heap.size);obtain⟨W0,d⟩:=ex ((w.alloc (.cells #[.string p,.slice a ts.length c] 86)).alloc (.cells #[.string ⟨#[]⟩,.slice none 0 0] 86));have k0:wE w W0:=by rw [←d];exact kAl.trans kAl
 have z0:W0.heap.size=N+2:=by rw [←d,←hN];simp
 have p0:W0.heap[N]?=some (.cells #[.string p,.slice a ts.length c] 86 (0,0)):=by rw [←d,←hN];exact(Keep.alloc (fun _=>True) _ _).heap (qh w _) trivial
 have p1:W0.heap[N+1]?=some (.cells #[.string ⟨#[]⟩,.slice none 0 0] 86 (0,0)):=by
  rw [←d,←hN];have:=qh (w.alloc (.cells #[.string p,.slice a ts.length c] 86)) (.cells #[.string ⟨#[]⟩,.slice none 0 0] 86);rw [zO]at this;exact this
 obtain⟨Wd,z⟩:=ex (W0.drew);have R:wE W0 Wd:=by rw [←z];exact kDr
 have hS: ∀X,wE W0 X->X.cell? ⟨N,0,none⟩=some (.string p)/\X.cell? ⟨N,1,none⟩=some (.slice a ts.length c):=fun X hX=>by
  have q:=hX.heap p0 trivial;have q0:=qb q 0 _ rfl;have q1:=qb q 1 _ rfl;simp only [zD]at q0 q1;exact⟨q0,q1⟩
 have ag:=hS Wd R;have ai:=qvy (w:=Wd) (qam h ((k0.trans R).mt)) (by have:=(k0.trans R).size;omega);have aM:=R.size;refine qhw ?_ h hN d k0 p0 p1 z R hS ag ai he;clear h hN d k0 p0 p1 z R hS ag ai he;intro Xh u Y ap aI av ab ar ao U ad aH;refine qbr Tryz.func64 rfl ?_;simp only [Tryz.ntmps64,qdy,Nat.reduceAdd,Nat.reduceSub];gi_wp2;rw [Y.o,u.o];refine qag ?_;refine qw rfl (fun X=>X.cell? ⟨N,0,none⟩=some (.string p)/\X.cell? ⟨N,1,none⟩=some (.slice a ts.length c)) [6] ?_;rw [ab.o];refine qq [0,1,2,3] ?_
 iterate 4
  refine tkB rfl U.o ?_
  try simp only [qr]
 refine ql ?_;refine hoR 4 rfl fun K l=>?_;gi_wp2;refine⟨wF,rfl,(zU.2 ad.o).mono ?_⟩;rintro e W1 ⟨v',rfl,o1,k1⟩;obtain⟨a1,c1,rfl⟩:=qi o1;have g:wE W0 W1:=ar.o.trans k1;have ah:=ao.o W1 g;have x:=g.heap av.o trivial;have d0:=qb x 0 _ rfl;have d1:=qb x 1 _ rfl;have f0:=qg x 0;have f1:=qg x 1;have l1:=qe x;simp only [zD]at d0 d1;have kS:Keep (fun b=>b≠N+1) W1 ((W1.setCell ⟨N+1,0,none⟩ (.string p)).setCell ⟨N+1,1,none⟩ (.slice a1 ts.length c1)):=(kSc).trans (kSc);have bS:=qaj 1 (.slice a1 ts.length c1) (qaj 0 (.string p) x);obtain⟨W2,y⟩:=ex ((W1.setCell ⟨N+1,0,none⟩ (.string p)).setCell ⟨N+1,1,none⟩ (.slice a1 ts.length c1));rw [y]at kS bS;have e0:=qb bS 0 _ rfl;have e1:=qb bS 1 _ rfl;have l2:=qe bS;simp only [zD]at e0 e1;have o2:=qf o1 kS (fun b hb=>by have:=(zE o1 b hb).1;omega);have k2:wE w W2:=((ap.o.trans g).mt).trans (kS.mono fun b _ (h:b<N)=>wA) |>.mono fun b hb _=>by have:=u.o;omega
 clear k1 g x bS kS o1;refine hd4 ?_ ah y o2 k2;clear ah y o2 k2;intro t aa au aq;gi_wp2;refine l.o _ _ (fun _=>t.o) ?_;refine qq [5] ?_
 iterate 1
  refine tkB rfl t.o ?_
  try simp only [qr]
 refine ql ?_;refine hoR 6 rfl fun K s=>?_;gi_wp2;rw [aa.o];refine s.o _ _ (fun h=>absurd h wD) ?_;refine qz wB (qah ?_);clear l s;gi_wp2;refine yA (v:=.agg #[.string p,.slice a1 ts.length c1]) (by simp [results,Tryz.results64,go_sem,e0,e1,l2]) rfl ⟨_,rfl,au.o.mono (by have:=u.o;omega),aq.o⟩
def q7g (n:Nat)(w:World)(b o:Nat)(f:qj):Prop:= ∃sv,CellsE w b o [.string f.pred,sv]/\qaf n w sv f.tuple
abbrev FactsIn (n:Nat)(w:World)(v:Value)(fs:List qj):Prop:=SliceIn n w 2 (q7g n) v fs
theorem FactsIn.keep {n:Nat}{w w':World}{v:Value}{fs:List qj}(h:FactsIn n w v fs)(hK:Keep (fun k=>k<n) w w'):FactsIn n w' v fs:=
 h.mono fun b o s hb ⟨sv,h1,h2⟩=>⟨sv,fun j v c=>hK.cell (h1 j v c) hb,qam h2 hK⟩
theorem qq8 {fs:List qj}{k:Nat}{f:qj}(h:fs[k]?=some f):qc6 okF (fs.take (k+1))=qen okF (qc6 okF (fs.take k)) f:=by
 unfold qc6;rw [zh,h,yl]
 rfl
theorem qku (fs:List qj):(qc6 okF fs).length<=fs.length:=by
 have:=q2m okF fs [];unfold qc6
 simpa using this
theorem qpq (fs:List qj): ∀x,x∈qc6 okF fs->okF x=true:=by
 have b: ∀(l:List qj) (c:List qj),(∀x,x∈c->okF x=true)-> ∀x,x∈l.foldl (qen okF) c->okF x=true:=by
  intro l
  induction l with
  |nil=>intro c h;exact h
  |cons f l ih=>intro c h;exact ih _ (q7w h f)
 exact b fs [] (fun x h=>by cases h)
theorem qkb {n0:Nat}{g:Gh}{w:World}(hg:GInv g w){n:Nat}{v:Value}{fs:List qj}(hf:FactsIn n w v fs)(hn:n<=w.heap.size)(aw: ∀b,b<n->g.free b)(aB: ∀f,f∈fs->f.pred.size<=1073741824)(aT:fs.length<67108864):
  Calls prog 13 #[v] w fun e w'=> ∃S g',e=.returned (qk S)/\GStep n0 g w g' w'/\g'.st=g.with S (qc6 okF fs)/\g'.held=g.held/\w.heap.size<=S:=by
 obtain⟨a,c,rfl,hl,hc,he⟩:=id hf;have R:=q4f (n0:=n0) hg;refine hd6 ?_ hg hf aw aB he R;clear hg hf aw aB he R;intro aY aX al ao aG ae
 go_enter Tryz.func13,Tryz.ntmps13
 go_wp2_with fail;refine ae.o.mono ?_;rintro e W1 ⟨S,g1,rfl,aC,U,ay,hS⟩;refine hd3 ?_ aC U ay;clear aC U ay;intro ap af am;go_wp2_with fail
 go_loopw [4] (fun i' X=> ∃(k:Nat) (g':Gh),k<=fs.length/\i'=.int .i64 (k:Int)/\GStep n0 g w g' X/\g'.st=g.with S (qc6 okF (fs.take k))/\g'.held=g.held) (fun i _=>fs.length-(intOf i).toNat)
 case atStart=>exact⟨0,g1,wA,rfl,ap.o,af.o,am.o⟩
 case round=>
  obtain⟨k,g',hk,rfl,m,q,x⟩:=hrel;have a8:=m.keep.size;by_cases aA:k<fs.length
  ·have aU:(k:Int)<fs.length:=by omega
   have a5:(0:Int)<=k:=wA
   obtain⟨f,u⟩: ∃f,fs[k]?=some f:=⟨_,zB aA⟩;obtain⟨b,o,rfl,hb,sv,ah,aj⟩:=aG.o k f u;have kn:Keep (fun b=>b<n) w wr:=m.keep.mono fun b _ h=>al.o b h;have d0:=kn.cell (ah 0 _ rfl) hb;have d1:=kn.cell (ah 1 _ rfl) hb;have a4:b<wr.heap.size:=wA
   have aa:=qam aj kn;obtain⟨sa,sc,rfl,a6,-,-⟩:=id aj;have av:=qxq f.pred aa wA;have aD:=qq8 u;have aL:=qku (fs.take k);rw [yC]at aL;have aN:=ao.o f (zH u);simp only [Nat.add_zero]at d0;clear ah aj aa kn u;refine hd5 ?_ m q x av aD;clear m q x av aD;intro d l p ak aq;go_wp2_with fail;refine ak.o.mono ?_;rintro e W2 ⟨v',rfl,o2,k2⟩;obtain⟨a2,c2,rfl⟩:=qi o2;have ax:=d.o.inv.keep k2.mt;have au:g'.st S=some (qc6 okF (fs.take k)):=by rw [l.o];unfold Gh.with;simp
   have s: ∀a' n' c',Value.slice a2 f.tuple.length c2=.slice (some a') n' c'->g'.tag a'.block=none:=fun a' n' c' e=>by
    injection e with e1 e2 e3
    subst e1;have h1:=(zE o2 a'.block (by simp [Value.ownBlock])).1;cases ht:g'.tag a'.block with
    |none=>rfl
    |some T=>have:=d.o.inv.lt _ _ ht;omega
   have y:=q4h (n0:=n0) ax au f W2.heap.size _ (qbj o2 wA) (zG _) aN wA s;have aE:wE wr W2:=k2;clear k2 o2 au s ax;refine hd2 ?_ y aE;clear y aE;intro ab ar;go_wp2_with fail;refine ab.o.mono ?_;rintro e W3 ⟨g2,rfl,ai,t,az⟩;have z:GStep n0 g w g2 W3:=(d.o.trans (GStep.own d.o.inv ar.o)).trans ai;have Y:g2.st=g.with S (qc6 okF (fs.take (k+1))):=by
    rw [t,aq.o]
    funext b
    have h:=congrFun l.o b;unfold Gh.with at h⊢;by_cases hb:b=S<;>simp_all
   refine hd5 ?_ z Y az ai t;clear z Y az ai t;intro ad ag an aQ aH;go_wp2_with fail;go_roundw
   case rel=>exact⟨k+1,g2,wA,by go_num,ad.o,ag.o,an.o.trans p.o⟩
   case measure=>simp [intOf];omega
  ·obtain rfl:k=fs.length:=by omega
   rw [zi]at q;clear aA;refine hd3 ?_ m q x;clear m q x;intro d l p;go_wp2_with fail;go_ret;exact⟨S,g',rfl,d.o,l.o,p.o,hS⟩
theorem qe2 (n:Nat)(va vb:Value)(xs d:List ByteArray)(w:World)(ha:qaf n w va xs)(hb:qaf n w vb d)(hn:n<=w.heap.size):
  Calls prog 32 #[va,vb] w fun e w'=>e=.returned (.bool (decide (xs=d)))/\ ∃m,w'=w.drewN m:=by
 obtain⟨aa,ca,rfl,aK,aH,af⟩:=id ha;obtain⟨ab,cb,rfl,aL,aI,ag⟩:=id hb;refine hd4 ?_ ha hb af ag;clear ha hb af ag;intro ax ay ad ae
 go_enter Tryz.func32,Tryz.ntmps32
 by_cases hl:xs.length=d.length
 ·have v:((xs.length:Int) !=d.length)=false:=by simp [hl]
  refine hd1 ?_ hl;clear hl;intro aj;go_wp2_with fail
  go_loopw [5] (fun i wr=> ∃k:Nat,k<=xs.length/\i=.int .i64 (k:Int)/\(∃m,wr=w.drewN m)/\ ∀j,j<k->xs[j]?=d[j]?) (fun i _=>xs.length-(intOf i).toNat)
  case atStart=>exact⟨0,wA,rfl,⟨0,rfl⟩,fun j h=>wA⟩
  case round=>
   obtain⟨k,hk,rfl,hM,b⟩:=hrel;have hK:wE w wr:=by obtain⟨m,rfl⟩:=hM;exact Keep.drewN' _ _ _
   have t:=zg hM;clear hM;have an:=aj.o;by_cases ao:k<xs.length
   ·obtain⟨x,hx⟩: ∃x,xs[k]?=some x:=⟨_,zB ao⟩;obtain⟨y,U⟩: ∃y,d[k]?=some y:=⟨_,zB wA⟩;obtain⟨ba,oa,rfl,aF,z⟩:=ad.o k x hx;obtain⟨bb,ob,rfl,aG,R⟩:=ae.o k y U;have f1:=hK.cell z trivial;have f2:=hK.cell R trivial;simp only [yB]at f1 f2;have hs:=hK.size;have aD:ba<wr.heap.size:=by omega
    have aE:bb<wr.heap.size:=wA
    have ar:(k:Int)<xs.length:=wA
    have au:(k:Int)<d.length:=wA
    have aJ:(0:Int)<=k:=wA
    by_cases c:x=y
    ·have ap:(x.toList==y.toList)=true:=qdn c;have l: ∀j,j<k+1->xs[j]?=d[j]?:=fun j hj=>by
      rcases Nat.lt_succ_iff_lt_or_eq.1 hj with h |rfl
      ·exact b j h
      ·rw [hx,U,c]
     clear b hx U c z R v;refine hd2 ?_ l hK;clear l hK;intro q Y;go_wp2_with fail
     go_quiet (fail)
     go_wp2_with fail;go_roundw
     case rel=>exact⟨k+1,wA,by go_num,(by obtain⟨m,h⟩:=t.o;rw [h,World.drewN_drewN];exact⟨_,rfl⟩),q.o⟩
     case measure=>simp [intOf];omega
    ·have ap:(x.toList==y.toList)=false:=qcv c;have p:decide (xs=d)=false:=by
      simp only [yQ];intro e;subst e;rw [hx] at U;cases U;exact c rfl
     clear b hx U c z R v;refine hd2 ?_ p hK;clear p hK;intro g Y;go_wp2_with fail
     go_quiet (fail)
     go_wp2_with fail;go_ret;exact⟨by rw [g.o];try rfl,(by obtain⟨m,h⟩:=t.o;rw [h,World.drewN_drewN];exact⟨_,rfl⟩)⟩
   ·have s:decide (xs=d)=true:=by
     simp only [zT];exact q90 an fun j hj=>b j wA
    clear b;refine hd2 ?_ s hK;clear s hK;intro u Y;go_wp2_with fail;go_ret;exact⟨by rw [u.o];try rfl,t.o⟩
 ·have v:((xs.length:Int) !=d.length)=true:=by simp;omega
  have p:decide (xs=d)=false:=by
   simp only [yQ];intro e;exact hl (by rw [e])
  clear hl;refine hd1 ?_ p;clear p;intro g;go_wp2_with fail;go_ret;exact⟨by rw [g.o];try rfl,⟨0,rfl⟩⟩
theorem qyt (e:Int)(w:World):Calls prog 12 #[.int .i64 e] w fun x w'=>x=.returned (.int .i64 e)/\w'=w:=by
 go_enter Tryz.func12,Tryz.ntmps12
 go_wp2;go_ret;exact⟨wC,rfl⟩
theorem qyu: ∀(x y:List UInt8),Op.bytesLess x y=ltL (x.map UInt8.toNat) (y.map UInt8.toNat)
 | [],[]=>rfl
 |_::_,[]=>rfl
 | [],_::_=>rfl
 |a::x,b::y=>by
  rw [Op.bytesLess,qyu x y,yX,yX,ltL];have h1:(a<b)↔a.toNat<b.toNat:=UInt8.lt_iff_toNat_lt;by_cases h:a.toNat<b.toNat
  ·rw [zI h];simp [h1.2 h]
  ·rw [zF h];have d:decide (a<b)=false:=by simpa using fun e=>h (h1.1 e)
   rw [d,xH];by_cases c:b.toNat<a.toNat
   ·rw [zI c];have:a≠b:=fun e=>by subst e;omega
    simp [this]
   ·rw [zF c];have:a=b:=UInt8.toNat_inj.1 wA;simp [this]
theorem qsz (a b:ByteArray):Op.bytesLess a.toList b.toList=ltS a b:=by
 rw [qyu,ByteArray.toList_eq,ByteArray.toList_eq]
 rfl
theorem q37 (a b:ByteArray):(!(Op.bytesLess a.toList b.toList ||a.toList==b.toList))=ltS b a:=by
 rw [qsz];by_cases h:a=b
 ·rw [qdn h,h,ql0];rfl
 ·rw [qcv h,Bool.or_false];cases c:ltS a b with
  |true=>rw [qsc c];rfl
  |false=>
   cases d:ltS b a with
   |true=>rfl
   |false=>exact absurd (qi9 c d) h
def qmg (a b:ByteArray):Int:=if ltS a b=true then-1 else if ltS b a=true then 1 else 0
theorem qvz (a b:ByteArray)(w:World):Calls prog 163 #[.string a,.string b] w fun x w'=>x=.returned (.int .i64 (qmg a b))/\w'=w:=by
 have h:=qsz a b;have g:=q37 a b;unfold qmg;cases c:ltS a b with
 |true=>
  rw [c]at h;clear g c;rw [zI rfl]
  go_enter Tryz.func163,Tryz.ntmps163
  go_wp2;go_ret;exact⟨rfl,rfl⟩
 |false=>
  rw [c]at h;rw [zF wC];cases d:ltS b a with
  |true=>
   have l:(a.toList==b.toList)=false:=qcv fun e=>by subst e;rw [ql0] at d;cases d
   clear g c d;rw [zI rfl]
   go_enter Tryz.func163,Tryz.ntmps163
   go_wp2;go_ret;exact⟨rfl,rfl⟩
  |false=>
   have l:(a.toList==b.toList)=true:=qdn (qi9 c d);clear g c d;rw [zF wC]
   go_enter Tryz.func163,Tryz.ntmps163
   go_wp2;go_ret;exact⟨rfl,rfl⟩
theorem qn4 (n:Nat)(va:Value)(xs:List ByteArray)(x:ByteArray)(w:World)(z:qaf n w va xs)(hn:n<=w.heap.size):
  Calls prog 83 #[va,.string x] w fun e w'=> ∃i:Int,e=.returned (.int .i64 i)/\w'=w/\ -1<=i/\i<=1073741824/\(i<0↔x∉xs):=by
 obtain⟨aa,ca,rfl,aj,ah,s⟩:=id z;refine hd2 ?_ z s;clear z s;intro ad p
 go_enter Tryz.func83,Tryz.ntmps83
 go_wp2_with fail
 go_loopw [5] (fun i wr=> ∃k:Nat,k<=xs.length/\i=.int .i64 (k:Int)/\wr=w/\x∉xs.take k) (fun i _=>xs.length-(intOf i).toNat)
 case atStart=>exact⟨0,wA,rfl,rfl,wC⟩
 case round=>
  obtain⟨k,hk,rfl,rfl,b⟩:=hrel;by_cases u:k<xs.length
  ·obtain⟨y,v⟩: ∃x,xs[k]?=some x:=⟨_,zB u⟩;obtain⟨U,oa,rfl,ag,m⟩:=p.o k y v;have f1:wr.cell? ⟨U,oa+k*1,none⟩=some (.string y):=m;simp only [yB]at f1;have af:U<wr.heap.size:=by omega
   have Y:(k:Int)<xs.length:=wA
   have ai:(0:Int)<=k:=wA
   by_cases c:y=x
   ·have R:(y.toList==x.toList)=true:=qdn c;have t:x∈xs:=c▸zH v;clear b v c m;refine hd1 ?_ t;clear t;intro q;go_wp2_with fail;go_ret;exact⟨_,rfl,rfl,wA,wA,⟨fun h=>wA,fun h=>absurd q.o h⟩⟩
   ·have R:(y.toList==x.toList)=false:=qcv c;have d:x∉xs.take (k+1):=by
     rw [zh,v];simp only [Option.toList_some,zr,zm,not_or];exact⟨b,fun e=>c e.symm⟩
    clear b v c m;refine hd1 ?_ d;clear d;intro g;go_wp2_with fail;go_roundw
    case rel=>exact⟨k+1,wA,by go_num,wF,g.o⟩
    case measure=>simp [intOf];omega
  ·obtain rfl:k=xs.length:=by omega
   rw [zi]at b;clear u;refine hd1 ?_ b;clear b;intro l;go_wp2_with fail;go_ret;exact⟨-1,rfl,rfl,wA,wA,⟨fun _=>l.o,fun _=>wA⟩⟩
def qgs (a b:List ByteArray):Int:=if ltR a b=true then-1 else if ltR b a=true then 1 else 0
theorem q38 (x y:ByteArray)(xs d:List ByteArray):qgs (x::xs) (y::d)=if qmg x y=0 then qgs xs d else qmg x y:=by
 unfold qgs qmg;simp only [ltR];by_cases b:ltS x y=true
 ·simp [b,qsc b]
 ·by_cases c:ltS y x=true
  ·simp [b,c]
  ·simp [b,c]
theorem q39 {xs b:List ByteArray}{k:Nat}{x y:ByteArray}(h:xs[k]?=some x)(l:b[k]?=some y):qgs (xs.drop k) (b.drop k)=if qmg x y=0 then qgs (xs.drop (k+1)) (b.drop (k+1)) else qmg x y:=by
 obtain⟨e,c⟩:=zA.1 h;obtain⟨g,d⟩:=zA.1 l;rw [zt e,zt g,c,d,q38]
theorem q6z {xs b:List ByteArray}{k:Nat}(c:k<=xs.length)(d:k<=b.length)(h:k=xs.length∨k=b.length):qgs (xs.drop k) (b.drop k)=if xs.length<b.length then-1 else if b.length<xs.length then 1 else 0:=by
 rcases h with rfl |rfl
 ·rw [xo];by_cases h:xs.length<b.length
  ·rw [zI h,zt h];rfl
  ·rw [zF h,zF wA,xk wA];rfl
 ·rw [xo];by_cases h:b.length<xs.length
  ·rw [zF wA,zI h,zt h];rfl
  ·rw [zF wA,zF h,xk wA];rfl
theorem qq9 (n:Nat)(va vb:Value)(xs p:List ByteArray)(w:World)(ha:qaf n w va xs)(hb:qaf n w vb p)(hn:n<=w.heap.size):
  Calls prog 125 #[va,vb] w fun e w'=>e=.returned (.int .i64 (qgs xs p))/\ ∃m,w'=w.drewN m:=by
 obtain⟨aa,ca,rfl,aK,aG,ah⟩:=id ha;obtain⟨ab,cb,rfl,aL,aH,ai⟩:=id hb;refine hd4 ?_ ha hb ah ai;clear ha hb ah ai;intro aw ax af ag
 go_enter Tryz.func125,Tryz.ntmps125
 go_wp2_with fail
 go_loopw [5] (fun i wr=> ∃k:Nat,k<=xs.length/\k<=p.length/\i=.int .i64 (k:Int)/\(∃m,wr=w.drewN m)/\qgs xs p=qgs (xs.drop k) (p.drop k)) (fun i _=>xs.length-(intOf i).toNat)
 case atStart=>exact⟨0,wA,wA,rfl,⟨0,rfl⟩,rfl⟩
 case round=>
  obtain⟨k,hk,ap,rfl,hM,b⟩:=hrel;have hK:wE w wr:=by obtain⟨m,rfl⟩:=hM;exact Keep.drewN' _ _ _
  have t:=zg hM;clear hM;have aJ:(0:Int)<=k:=wA
  have g:(k=xs.length∨k=p.length)->qgs xs p=if xs.length<p.length then-1 else if p.length<xs.length then 1 else 0:=fun h=>b.trans (q6z hk ap h)
  by_cases U:k<xs.length
  ·have ar:(k:Int)<xs.length:=by omega
   by_cases Y:k<p.length
   ·have v:(k:Int)<p.length:=by omega
    obtain⟨x,hx⟩: ∃x,xs[k]?=some x:=⟨_,zB U⟩;obtain⟨y,hy⟩: ∃y,p[k]?=some y:=⟨_,zB Y⟩;obtain⟨ba,oa,rfl,aE,ad⟩:=af.o k x hx;obtain⟨bb,ob,rfl,aF,ae⟩:=ag.o k y hy;have f1:=hK.cell ad trivial;have f2:=hK.cell ae trivial;simp only [yB]at f1 f2;have hs:=hK.size;have aC:ba<wr.heap.size:=wA
    have aD:bb<wr.heap.size:=wA
    rw [q39 hx hy]at b;have d:=fun w=>qvz x y w;by_cases s:qmg x y=0
    ·rw [zI s]at b;rw [s]at d;clear hx hy s ad ae g;refine hd3 ?_ b hK d;clear b hK d;intro q R l;go_wp2_with fail
     go_quiet ((go_at_call 163;exact Calls.quiet_of_same (l.o _)))
     go_wp2_with fail;go_roundw
     case rel=>exact⟨k+1,wA,wA,by go_num,(by obtain⟨m,h⟩:=t.o;rw [h,World.drewN_drewN];exact⟨_,rfl⟩),q.o⟩
     case measure=>simp [intOf];omega
    ·rw [zF s]at b;obtain⟨c,hc⟩:=ex (qmg x y);rw [hc]at b d s;have aM:(c !=0)=true:=by simpa using s
     clear hx hy s ad ae g hc;refine hd3 ?_ b hK d;clear b hK d;intro q R l;go_wp2_with fail
     go_quiet ((go_at_call 163;exact Calls.quiet_of_same (l.o _)))
     go_wp2_with fail;go_ret;exact⟨by rw [q.o];try rfl,(by obtain⟨m,h⟩:=t.o;rw [h,World.drewN_drewN];exact⟨_,rfl⟩)⟩
   ·have z:=g (.inr wA);rw [zF wA,zI wA]at z;have v:(p.length:Int)<xs.length:=by omega
    obtain rfl:k=p.length:=wA
    clear b g U Y;refine hd2 ?_ z hK;clear z hK;intro u R;go_wp2_with fail;go_ret;exact⟨by rw [u.o];try rfl,t.o⟩
  ·have z:=g (.inl wA);obtain rfl:k=xs.length:=by omega
   by_cases h1:xs.length<p.length
   ·rw [zI h1]at z;have v:(xs.length:Int)<p.length:=by omega
    clear b g U h1;refine hd2 ?_ z hK;clear z hK;intro u R;go_wp2_with fail;go_ret;exact⟨by rw [u.o];try rfl,t.o⟩
   ·rw [zF h1,zF wA]at z;have v:(xs.length:Int)=p.length:=by omega
    clear b g U h1;refine hd2 ?_ z hK;clear z hK;intro u R;go_wp2_with fail;go_ret;exact⟨by rw [u.o];try rfl,t.o⟩
end Go.Proofs
