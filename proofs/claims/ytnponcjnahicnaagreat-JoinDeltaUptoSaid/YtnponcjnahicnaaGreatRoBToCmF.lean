/- Parts of the proof. -/
import Derived.Test.YtnponcjnahicnaaGreatRoA
import Derived.Test.YtnponcjnahicnaaGreatCmE
set_option linter.unusedSimpArgs false
set_option linter.unusedVariables false
set_option maxRecDepth 100000
set_option maxHeartbeats 2000000
open Go.Proofs.Tryz(prog)
open List(foldl_cons)
namespace Go.Proofs
open Go.RowKit Go.Ink P16
attribute [local go_sem] Oper.semAt_some
theorem q57 (s:ByteArray):qcw s false=qh0 s:=by unfold qcw qh0;rw [zF wF]
theorem q3r (s:ByteArray):qdq s=(qcw s true&&!qev s):=by unfold qcw qdq;rw [zI rfl]
theorem qtj (s:ByteArray)(w:World):Calls prog 108 #[.string s] w fun e w'=>e=.returned (.bool (qdq s))/\wG w w':=by
 rw [q3r];have m:qg7.toList= [105,110,112,117,116]:=wD
 have h:qfy.toList= [111,117,116,112,117,116]:=wD
 have l:qka.toList= [110,111,116]:=wD
 by_cases c:s=qg7
 ·have d:(qcw s true&&!qev s)=false:=by rw [show qev s=true from by unfold qev;rw [zS c];rfl];simp
  have y:=qig c;rw [m]at y;rw [d];clear d c m h l
  go_enter Tryz.func108,Tryz.ntmps108
  go_wp2_with fail;go_ret;exact⟨rfl,Keep.refl _ _⟩
 have y:=qgp c;rw [m]at y;by_cases g:s=qfy
 ·have d:(qcw s true&&!qev s)=false:=by rw [show qev s=true from by unfold qev;rw [zS g];simp];simp
  have x:=qig g;rw [h]at x;rw [d];clear d c g m h l
  go_enter Tryz.func108,Tryz.ntmps108
  go_wp2_with fail;go_ret;exact⟨rfl,Keep.refl _ _⟩
 have x:=qgp g;rw [h]at x;by_cases p:s=qka
 ·have d:(qcw s true&&!qev s)=false:=by rw [show qev s=true from by unfold qev;rw [zS p];simp];simp
  have r:=qig p;rw [l]at r;rw [d];clear d c g p m h l
  go_enter Tryz.func108,Tryz.ntmps108
  go_wp2_with fail;go_ret;exact⟨rfl,Keep.refl _ _⟩
 have r:=qgp p;rw [l]at r;have R:qev s=false:=by unfold qev;rw [zM c,zM g,zM p];rfl
 rw [R,Bool.not_false,xM];have v:=qmr s true w;obtain⟨b,q⟩:=ex (qcw s true);rw [q]at v⊢;clear c g p R m h l;refine hd2 ?_ v q;clear v q;intro t U
 go_enter Tryz.func108,Tryz.ntmps108
 go_wp2_with fail;refine t.o.mono ?_;rintro e X ⟨rfl,z⟩;have u:=zg z;clear z;go_wp2_with fail;go_ret;exact⟨rfl,u.o⟩
theorem qjo (t:TermD)(w:World):Calls prog 111 #[qc3 t] w fun e w'=>e=.returned (.bool (qbi t))/\wG w w':=by
 obtain⟨v,s⟩:=t;unfold qc3;simp only;have g:=fun w=>qmr s false w;have h:qbi ⟨v,s⟩=if v then qh0 s else qg8 s:=rfl
 rw [←qnp]at h;simp only [q57]at g;obtain⟨r,c⟩: ∃b,qh0 s=b:=⟨_,rfl⟩;rw [c]at h;simp only [c]at g;refine hd3 ?_ g h c;clear g h c;intro l d m;cases v
 ·go_enter Tryz.func111,Tryz.ntmps111
  go_wp2_with fail;go_ret;exact⟨by rw [d.o];rfl,kAl⟩
 ·go_enter Tryz.func111,Tryz.ntmps111
  go_wp2_with fail;refine(l.o _).mono ?_;rintro e q ⟨rfl,p⟩;go_wp2_with fail;go_ret;exact⟨by rw [d.o];rfl,kAl.trans p⟩
theorem qpx (t:TermD)(w:World):Calls prog 110 #[qc3 t] w fun e w'=>e=.returned (.bool (!qbi t))/\wG w w':=by
 have h:=fun w=>qjo t w;obtain⟨v,s⟩:=t;unfold qc3 at h⊢;simp only at h⊢;obtain⟨p,c⟩: ∃b,qbi ⟨v,s⟩=b:=⟨_,rfl⟩;simp only [c]at h;rw [c];refine hd2 ?_ h c;clear h c;intro g d
 go_enter Tryz.func110,Tryz.ntmps110
 go_wp2_with fail;refine(g.o _).mono ?_;rintro e m ⟨rfl,l⟩;go_wp2_with fail;go_ret;exact⟨rfl,kAl.trans l⟩
theorem qms (n:Nat)(a:qcn)(sa:Value)(w:World)(ha:qai n w sa a.args)(hn:n<=w.heap.size):Calls prog 74 #[.agg #[.string a.pred,sa]] w fun e w'=>e=.returned (.bool (qc4 a))/\Keep (fun b=>b<w.heap.size) w w':=by
 obtain⟨pr,args⟩:=a;simp only at ha⊢;have h1:=fun w=>qtj pr w;have U:qc4 ⟨pr,args⟩=(qdq pr&&decide (args.length<=16)&&args.all qbi):=rfl;obtain⟨b1,s⟩: ∃b,qdq pr=b:=⟨_,rfl⟩;have m:=qlh qbi args;obtain⟨b2,q⟩: ∃b,args.all qbi=b:=⟨_,rfl⟩;rw [q]at m;obtain⟨W0,l⟩:=ex (w.alloc (.cells #[.string pr,sa] 24));have Y:wG w W0:=by rw [←l];exact kAl
 have hz:=Y.size;have h2:=fun W1 (hW1:wG W0 W1)=>qih (gf:=110) (bs:= #[]) (lb:= #[]) (qdg Tryz.func110 wD rfl) (fun t=>!qbi t) n sa args W1 (qak ha ((Y.trans hW1).mt)) (by have:=hW1.size;omega)
  (fun x _ W _=>(qpx x W).mono fun e w' ⟨e1,c⟩=>⟨e1,c.mt⟩)
 simp only [m]at h2;rw [s,q]at U;simp only [s]at h1;obtain⟨aa,ca,rfl,ao,aq,ah⟩:=id ha;have c1:W0.cell? ⟨w.heap.size,1,none⟩=some (.slice aa args.length ca):=by rw [←l];simp
 have l0:w.heap.size<W0.heap.size:=by rw [←l];simp
 clear ah ha m;have u:decide (args.length<=16)=decide ((args.length:Int)<=16):=by rw [yl];omega
 rw [u]at U;obtain⟨b3,p⟩: ∃b,decide ((args.length:Int)<=16)=b:=⟨_,rfl⟩;rw [p]at U;clear u;refine hd7 ?_ h1 h2 U s q Y l;clear h1 h2 U s q Y l;intro y ag v am al r g;cases b1
 ·go_enter Tryz.func74,Tryz.ntmps74
  go_wp2_with fail;rw [g.o];refine(y.o _).mono ?_;rintro e z ⟨rfl,c⟩;have d:=zg c;clear c;go_wp2_with fail;go_ret;exact⟨by rw [v.o];rfl,(r.o.trans d.o).mt⟩
 ·cases b3
  ·have ai: ¬(args.length:Int)<=16:=xV p;clear p
   go_enter Tryz.func74,Tryz.ntmps74
   go_wp2_with fail;rw [g.o];refine(y.o _).mono ?_;rintro e z ⟨rfl,c⟩;have aj:=c.cell c1 trivial;have ak:w.heap.size<z.heap.size:=by have:=c.size;omega
   have d:=zg c;clear c c1;go_wp2_with fail;go_ret;exact⟨by rw [v.o];rfl,(r.o.trans d.o).mt⟩
  ·have ai:(args.length:Int)<=16:=yE p;clear p
   go_enter Tryz.func74,Tryz.ntmps74
   go_wp2_with fail;rw [g.o];refine(y.o _).mono ?_;rintro e z ⟨rfl,c⟩;have aj:=c.cell c1 trivial;have ak:w.heap.size<z.heap.size:=by have:=c.size;omega
   have R:=ag.o z c;have d:=zg c;have X:=zg R;clear c c1 R;go_wp2_with fail;refine X.o.mono ?_;rintro e W1 ⟨rfl,k2⟩;go_wp2_with fail;go_ret;exact⟨by rw [v.o];cases b2<;>rfl,((r.o.trans d.o).mt).trans (k2.mono fun b hb h=>by have:=r.o.size;have:=d.o.size;omega)⟩
theorem qvz (n:Nat)(L:LitD)(sa:Value)(w:World)(ha:qai n w sa L.atom.args)(hn:n<=w.heap.size):Calls prog 77 #[qew L sa] w fun e w'=>e=.returned (.bool (qcq L))/\Keep (fun b=>b<w.heap.size) w w':=by
 have aj:=fun W (hW:qai n W sa L.atom.args) (h2:n<=W.heap.size)=>qms n L.atom sa W hW h2;have ak:=fun W=>qjo L.left W;have ap:=fun W=>qjo L.right W;have al:=fun W=>qi1 L.left qdr W;have an:=fun W=>qi1 L.right qdr W;have hL:qcq L=if L.kind=1∨L.kind=2 then qc4 L.atom&&decide (L.left=qdr)&&decide (L.right=qdr) else if L.kind=3 then decide (L.atom.pred=⟨#[]⟩)&&decide (L.atom.args.length=0)&&qbi L.left&&qbi L.right else false:=rfl
 obtain⟨bA,aC⟩: ∃b,qc4 L.atom=b:=⟨_,rfl⟩;obtain⟨az,Y⟩: ∃b,decide (L.left=qdr)=b:=⟨_,rfl⟩;obtain⟨aO,ae⟩: ∃b,decide (L.right=qdr)=b:=⟨_,rfl⟩;obtain⟨aG,ad⟩: ∃b,qbi L.left=b:=⟨_,rfl⟩;obtain⟨aN,af⟩: ∃b,qbi L.right=b:=⟨_,rfl⟩;obtain⟨bl,ay⟩: ∃b,qcq L=b:=⟨_,rfl⟩;rw [ay];rw [ay,aC,Y,ae,ad,af]at hL;simp only [aC]at aj;simp only [ad]at ak;simp only [af]at ap;simp only [Y]at al;simp only [ae]at an;clear ay aC Y ae ad af;obtain⟨k,⟨pr,args⟩,⟨lv,lt⟩,⟨rv,rt⟩⟩:=L;unfold qew;unfold qc3 qdr at al an;unfold qc3 at ak ap;simp only at*;obtain⟨aa,ca,rfl,aK,aL,-⟩:=id ha;obtain⟨m,hm⟩:=ex (args.length);rw [hm]at hL ha aj aK aL;rw [hm];obtain⟨nb,aA⟩:=ex (w.heap.size);obtain⟨W0,ao⟩:=ex (w.alloc (.cells #[.int .i64 k,.string pr,.slice aa m ca,.bool lv,.string lt,.bool rv,.string rt] 64));have k0:wG w W0:=by rw [←ao];exact kAl
 have b0:W0.heap[nb]?=some (.cells #[.int .i64 k,.string pr,.slice aa m ca,.bool lv,.string lt,.bool rv,.string rt] 64 (0,0)):=by rw [←ao,←aA];exact qh _ _
 have l0:=qe b0;have bb:=k0.size;have au:=aj W0 (qak ha k0.mt) wC;have c0:=qb b0 0 _ rfl;have c1:=qb b0 1 _ rfl;have c2:=qb b0 2 _ rfl;have c3:=qb b0 3 _ rfl;have c4:=qb b0 4 _ rfl;have c5:=qb b0 5 _ rfl;have c6:=qb b0 6 _ rfl;simp only [zD]at c0 c1 c2 c3 c4 c5 c6;clear ha aj aK aL hm;refine hd8 ?_ hL au ak ap k0 ao aA b0;clear hL au ak ap k0 ao aA b0;intro aB aD u X y l p bf;by_cases R:k=1∨k=2
 ·have aI:bl=(bA&&az&&aO):=by rw [aB.o,zI R]
  refine hd1 ?_ aI;clear aI;intro aM;rcases R with rfl |rfl
  all_goals cases bA
  all_goals (try cases az)
  all_goals go_enter Tryz.func77,Tryz.ntmps77
  all_goals go_wp2_with fail
  all_goals rw [l.o,p.o]
  all_goals refine aD.o.mono ?_
  all_goals (rintro e W1 ⟨rfl,c⟩;have a8:=c.cell c3 l0;have ba:=c.cell c4 l0;have v:=c.cell c5 l0;have U:=c.cell c6 l0;have a9:=c.size;have am:nb<W1.heap.size:=wC;have kk:Keep (fun b=>b<nb) w W1:=y.o.mt.trans (c.mono fun b hb _=>wC);clear c c0 c1 c2 c3 c4 c5 c6;have aU:=zg kk;clear kk)
  all_goals go_wp2_with fail
  all_goals go_ret
  all_goals exact⟨by rw [aM.o];(try cases az)<;>(try cases aO)<;>rfl,aU.o.mono fun b hb h=>by have:=p.o;omega⟩
 ·by_cases e3:k=3
  ·have g:bl=(decide (pr=⟨#[]⟩)&&decide (m=0)&&aG&&aN):=by rw [aB.o,zF R,zI e3]
   subst e3;clear al an;cases aG
   ·refine hd1 ?_ g;clear g;intro d
    go_enter Tryz.func77,Tryz.ntmps77
    go_wp2_with fail;rw [l.o,p.o];refine(u.o _).mono ?_;rintro e W1 ⟨rfl,c⟩;have r:=zg c;clear c;go_wp2_with fail;go_ret;exact⟨by rw [d.o,yP,y8];rfl,(y.o.trans r.o).mt⟩
   ·cases aN
    ·refine hd1 ?_ g;clear g;intro d
     go_enter Tryz.func77,Tryz.ntmps77
     go_wp2_with fail;rw [l.o,p.o];refine(u.o _).mono ?_;rintro e W1 ⟨rfl,c⟩;have v:=c.cell c5 trivial;have U:=c.cell c6 trivial;have am:nb<W1.heap.size:=by have:=c.size;omega
     have r:=zg c;clear c c5 c6;go_wp2_with fail;refine(X.o _).mono ?_;rintro e W2 ⟨rfl,q⟩;have z:=zg q;clear q;go_wp2_with fail;go_ret;exact⟨by rw [d.o,yP];rfl,((y.o.trans r.o).trans z.o).mt⟩
    ·by_cases hp:pr=⟨#[]⟩
     ·subst hp;rw [show decide ((⟨#[]⟩:ByteArray)=⟨#[]⟩)=true from rfl,yW]at g;by_cases aF:m=0
      ·subst aF;refine hd1 ?_ g;clear g;intro d
       go_enter Tryz.func77,Tryz.ntmps77
       go_wp2_with fail;rw [l.o,p.o];refine(u.o _).mono ?_;rintro e W1 ⟨rfl,c⟩;have v:=c.cell c5 trivial;have U:=c.cell c6 trivial;have s:=c.cell c1 trivial;have t:=c.cell c2 trivial;have am:nb<W1.heap.size:=by have:=c.size;omega
       have r:=zg c;clear c c5 c6 c1 c2;go_wp2_with fail;refine(X.o _).mono ?_;rintro e W2 ⟨rfl,q⟩;have aw:=q.cell s trivial;have ar:=q.cell t trivial;have ax:nb<W2.heap.size:=by have:=q.size;omega
       have z:=zg q;clear q s t v U;go_wp2_with fail;go_ret;exact⟨by rw [d.o];rfl,((y.o.trans r.o).trans z.o).mt⟩
      ·have bg:((m:Int)==0)=false:=by rw [y9];omega
       rw [zM aF]at g;refine hd1 ?_ g;clear g;intro d
       go_enter Tryz.func77,Tryz.ntmps77
       go_wp2_with fail;rw [l.o,p.o];refine(u.o _).mono ?_;rintro e W1 ⟨rfl,c⟩;have v:=c.cell c5 trivial;have U:=c.cell c6 trivial;have s:=c.cell c1 trivial;have t:=c.cell c2 trivial;have am:nb<W1.heap.size:=by have:=c.size;omega
       have r:=zg c;clear c c5 c6 c1 c2;go_wp2_with fail;refine(X.o _).mono ?_;rintro e W2 ⟨rfl,q⟩;have aw:=q.cell s trivial;have ar:=q.cell t trivial;have ax:nb<W2.heap.size:=by have:=q.size;omega
       have z:=zg q;clear q s t v U;go_wp2_with fail;go_ret;exact⟨by rw [d.o];rfl,((y.o.trans r.o).trans z.o).mt⟩
     ·have aV:=qnr hp;have bd:pr.toList.isEmpty=false:=by cases h:pr.toList with
       |nil=>exact absurd h aV
       |cons x xs=>rfl
      rw [zM hp]at g;clear hp;refine hd1 ?_ g;clear g;intro d
      go_enter Tryz.func77,Tryz.ntmps77
      go_wp2_with fail;rw [l.o,p.o];refine(u.o _).mono ?_;rintro e W1 ⟨rfl,c⟩;have v:=c.cell c5 trivial;have U:=c.cell c6 trivial;have s:=c.cell c1 trivial;have t:=c.cell c2 trivial;have am:nb<W1.heap.size:=by have:=c.size;omega
      have r:=zg c;clear c c5 c6 c1 c2;go_wp2_with fail;refine(X.o _).mono ?_;rintro e W2 ⟨rfl,q⟩;have aw:=q.cell s trivial;have ar:=q.cell t trivial;have ax:nb<W2.heap.size:=by have:=q.size;omega
      have z:=zg q;clear q s t v U;go_wp2_with fail;go_ret;exact⟨by rw [d.o];rfl,((y.o.trans r.o).trans z.o).mt⟩
  ·have aJ:bl=false:=by rw [aB.o,zF R,zF e3]
   have f1: ¬k=1:=fun e=>R (.inl e);have f2: ¬k=2:=fun e=>R (.inr e);clear R al an;refine hd1 ?_ aJ;clear aJ;intro aH
   go_enter Tryz.func77,Tryz.ntmps77
   go_wp2_with fail;go_ret;exact⟨by rw [aH.o];rfl,by rw [l.o];exact y.o.mt⟩
theorem qq9 (n:Nat)(L:LitD)(sa:Value)(w:World)(d:qai n w sa L.atom.args)(s:n<=w.heap.size):Calls prog 76 #[qew L sa] w fun e w'=>e=.returned (.bool (!qcq L))/\Keep (fun b=>b<w.heap.size) w w':=by
 have h:=fun W (hK:wG w W)=>qvz n L sa W (qak d hK.mt) (by have:=hK.size;omega);obtain⟨y,u,rfl,-,-,-⟩:=id d;obtain⟨k,⟨pr,args⟩,⟨p,lt⟩,⟨r,q⟩⟩:=L;unfold qew at h⊢;simp only at h⊢;obtain⟨x,c⟩: ∃b,qcq ⟨k,⟨pr,args⟩,⟨p,lt⟩,⟨r,q⟩⟩=b:=⟨_,rfl⟩;simp only [c]at h;rw [c];clear d;refine hd2 ?_ h c;clear h c;intro m g
 go_enter Tryz.func76,Tryz.ntmps76
 go_wp2_with fail;refine(m.o _ kAl).mono ?_;rintro e t ⟨rfl,l⟩;go_wp2_with fail;go_ret;exact⟨rfl,kAl.trans (l.mono fun b v _=>by simp;omega)⟩
theorem qra:qp5:=by
 intro n r sh sb w hr hn;obtain⟨⟨pr,args⟩,body⟩:=r;obtain⟨Y,t⟩:=hr;unfold qam;simp only at Y t⊢;have hE:qaq ⟨⟨pr,args⟩,body⟩=(decide (body.length<=256)&&qc4 ⟨pr,args⟩&&body.all qcq):=rfl;have R:=fun W (hK:wG w W)=>qms n ⟨pr,args⟩ sh W (qak Y hK.mt) (by have:=hK.size;omega);have s:=fun W (hK:Keep (fun b=>b<w.heap.size) w W)=>qk7 (gf:=76) (bs:= #[]) (lb:= #[]) (qdg Tryz.func76 wD rfl) (fun L=>!qcq L) n sb body W (qi7 t (hK.mono fun b _ h=>wC)) (by have:=hK.size;omega)
  (fun x _ W2 aj sa ah=>(qq9 n x sa W2 ah (by have:=hK.size;have:=aj.size;omega)).mono fun e w' ⟨e1,d⟩=>⟨e1,d⟩)
 rw [qlh qcq body]at s;obtain⟨bA,y⟩: ∃b,qc4 ⟨pr,args⟩=b:=⟨_,rfl⟩;obtain⟨bL,v⟩: ∃b,body.all qcq=b:=⟨_,rfl⟩;rw [y,v,show decide (body.length<=256)=decide ((body.length:Int)<=256) from by rw [yl];omega]at hE;simp only [y]at R;simp only [v]at s;obtain⟨aa,ca,rfl,-,-,-⟩:=id Y;obtain⟨ab,cb,rfl,ax,az,-⟩:=id t;obtain⟨W0,m⟩:=ex (w.alloc (.cells #[.string pr,.slice aa args.length ca,.slice ab body.length cb] 27));have k0:wG w W0:=by rw [←m];exact kAl
 have hz:=k0.size;have c2:W0.cell? ⟨w.heap.size,2,none⟩=some (.slice ab body.length cb):=by rw [←m];simp
 have l0:w.heap.size<W0.heap.size:=by rw [←m];simp
 have u:=R W0 k0;clear Y t y v R;obtain⟨b3,p⟩: ∃b,decide ((body.length:Int)<=256)=b:=⟨_,rfl⟩;rw [p]at hE;refine hd5 ?_ hE u s k0 m;clear hE u s k0 m;intro U c X z l;cases bA
 ·go_enter Tryz.func40,Tryz.ntmps40
  go_wp2_with fail;rw [l.o];refine c.o.mono ?_;rintro e W1 ⟨rfl,d⟩;have q:Keep (fun b=>b<w.heap.size) w W1:=z.o.mt.trans (d.mono fun b t _=>wC);have g:=zg q;clear d q;go_wp2_with fail;go_ret;exact⟨by rw [U.o,yP,y8];rfl,g.o⟩
 ·cases b3
  ·have ai: ¬(body.length:Int)<=256:=xV p;clear p
   go_enter Tryz.func40,Tryz.ntmps40
   go_wp2_with fail;rw [l.o];refine c.o.mono ?_;rintro e W1 ⟨rfl,d⟩;have ag:=d.cell c2 l0;have ak:w.heap.size<W1.heap.size:=by have:=d.size;omega
   have q:Keep (fun b=>b<w.heap.size) w W1:=z.o.mt.trans (d.mono fun b t _=>wC);have g:=zg q;clear d q c2;go_wp2_with fail;go_ret;exact⟨by rw [U.o];rfl,g.o⟩
  ·have ai:(body.length:Int)<=256:=yE p;clear p
   go_enter Tryz.func40,Tryz.ntmps40
   go_wp2_with fail;rw [l.o];refine c.o.mono ?_;rintro e W1 ⟨rfl,d⟩;have ag:=d.cell c2 l0;have ak:w.heap.size<W1.heap.size:=by have:=d.size;omega
   have q:Keep (fun b=>b<w.heap.size) w W1:=z.o.mt.trans (d.mono fun b t _=>wC);have ay:=q.size;have g:=zg q;clear d q c2;go_wp2_with fail;refine(X.o _ g.o).mono ?_;rintro e W2 ⟨rfl,k2⟩;go_wp2_with fail;go_ret;exact⟨by rw [U.o];cases bL<;>rfl,g.o.trans (k2.mono fun b t _=>wC)⟩
end Go.Proofs
namespace Go.Proofs
open Go.RowKit Go.Ink Go.Flt R4 P16
theorem qs4 {r:RuleD}(h:qaq r=true): ∀L,L∈r.body->qq L=L.terms:=fun L c=>by
 have b:=(qcc h).2.2 L c;unfold qcq at b;unfold qq LitD.terms;split at b
 ·rename_i hk;rw [zF wC,zI hk]
 ·rename_i hk;split at b
  ·rename_i h3;rw [zI h3,zF hk,zI h3]
  ·cases b
theorem qs5 (ts:List TermD): ∀vars,qbe vars ts=((ts.filter (·.var)).map (·.text)).foldl qr vars:=by
 induction ts with
 |nil=>intro vars;rfl
 |cons t ts ih=>
  intro vars;show qbe (if t.var=true then qr vars t.text else vars) ts=_;rw [ih];by_cases b:t.var=true
  ·rw [zI b,xX b];rfl
  ·rw [zF b,xi b]
theorem qfj {r:RuleD}(h:qaq r=true):qb1 r r.body.length=qu r:=by
 unfold qb1 qu;rw [zi,qj0];have b: ∀(l:List LitD) (vs:List ByteArray),(∀L,L∈l->qq L=L.terms)->l.foldl (fun vs L=>qbe vs (qq L)) vs=(l.flatMap LitD.uses).foldl qr vs:=by
  intro l
  induction l with
  |nil=>intro vs _;rfl
  |cons L l ih=>
   intro vs c;rw [foldl_cons,ih _ (fun x d=>c x (yD _ d)),yF,yn,c L (yJ ..),qs5]
   rfl
 rw [b _ _ (qs4 h),qs5];unfold qbf;rw [yn]
 rfl
theorem qrb {r:RuleD}(h:S12.looseOf r=none): ∀x,x∈r.names->x∈qcm r.body:=fun x b=>by
 have:=yp.1 h x b
 simpa using this
theorem q3s {body:List LitD}{x:ByteArray}(h:x∈qcm body):x∈q8 body (qaf body):=by
 unfold qcm at h;rw [qep,xF]at h;obtain⟨L,c,b⟩:=h;rw [yX]at c;obtain⟨i,hi⟩:=zy.1 c.1;have e:L.kind=1:=by simpa using c.2
 have d:=(zA.1 hi).1;rw [qgk];refine⟨i,?_,?_,?_⟩
 ·unfold qaf;rw [yX,yk,qkn hi];exact⟨d,by simp [e]⟩
 ·rw [qkn hi];omega
 ·rw [zJ,hi];unfold LitD.uses LitD.terms at b;rw [zI (.inl e)]at b;exact b
theorem qxp {x:ByteArray}: ∀(l:List LitD) (K:List ByteArray),(x∈K∨ ∃L,L∈l/\L.kind=1/\x∈(L.atom.args.filter (·.var)).map (·.text))->x∈l.foldl (fun K L=>if L.kind=1 then K++qcf K L.atom.args else K) K:=by
 intro l
 induction l with
 |nil=>
  intro K h;rcases h with h |⟨L,h,-⟩
  ·exact h
  ·cases h
 |cons M l ih=>
  intro K h;rw [foldl_cons];refine ih _ ?_;rcases h with h |⟨L,hL,hk,hx⟩
  ·left;split
   ·exact xf _ h
   ·exact h
  ·rcases zw.1 hL with rfl |hL
   ·left;rw [zI hk,zr]
    by_cases hK:x∈K
    ·exact .inl hK
    ·right;obtain⟨t,b,rfl⟩:=yL.1 hx
     rw [yX]at b;unfold qcf;rw [qep];refine yL.2 ⟨t,yX.2 ⟨b.1,?_⟩,rfl⟩;unfold qcu;rw [b.2,zM hK]
     rfl
   ·exact .inr ⟨L,hL,hk,hx⟩
theorem q73 {body:List LitD}{x:ByteArray}(h:x∈qcm body):x∈qby body:=by
 unfold qcm at h;rw [qep,xF]at h;obtain⟨L,c,b⟩:=h;rw [yX]at c;have d:L.kind=1:=by simpa using c.2
 unfold LitD.uses LitD.terms at b;rw [zI (.inl d)]at b;unfold qby;exact qxp _ _ (.inr ⟨L,c.1,d,b⟩)
theorem q0n {r:RuleD}(p:qaq r=true)(h:S12.looseOf r=none):qej r=true:=by
 have g:=qrb h;have b: ∀L t,L∈r.lits->t∈L.terms->qcu (qby r.body) t=false:=fun L t d c=>by
  unfold qcu;cases l:t.var with
  |false=>rfl
  |true=>
   rw [zS (q73 (g _ (qlx d c l)))]
   rfl
 unfold qej;rw [zV,xL,yM];refine⟨xb.2 fun t c=>?_,fun L d=>?_⟩
 ·rw [b r.headLit t (yJ ..) (by unfold LitD.terms RuleD.headLit;rw [zI (.inl rfl)];exact c)];simp
 ·unfold qc7;by_cases m:L.kind=1
  ·rw [zS m];rfl
  ·rw [ya];right;rw [xL];refine xb.2 fun t c=>?_;have e:qff L=L.terms:=by rw [←qs4 p L d];rfl
   rw [e]at c;rw [b L t (yD _ d) c];simp
theorem q74 {r:RuleD}(h:qea r=0):qce r/\qaq r=true/\S12.looseOf r=none:=by
 have c:qaq r=true:=by
  cases b:qaq r with
  |true=>rfl
  |false=>unfold qea at h;rw [b,zF wE] at h;cases h
 have g:S12.looseOf r=none:=by
  cases b:S12.looseOf r with
  |none=>rfl
  |some x=>unfold qea at h;rw [c,zI rfl,b,zF wE] at h;cases h
 refine⟨⟨c,q0n c g,fun x l=>q3s (qrb g x l),fun L t d m=>qp6 c L d t m,fun L d=>?_,fun e=>?_⟩,c,g⟩
 ·have b:=(qcc c).2.2 L d;unfold qcq at b;split at b
  ·simp only [zV]at b;have:=(qgj b.1.1).1;unfold qdq qb0 at this;simp only [zV,zT]at this;omega
  ·split at b
   ·simp only [zV,zT]at b;rw [b.1.1.1];exact yc _
   ·cases b
 ·have:=(qgj (qcc c).2.1).1;unfold qdq qb0 at this;simp only [zV,zT]at this;rw [e]at this;exact absurd this.1.1.2.1 wF
theorem qkw {n:Nat}{r:RuleD}{sh d:Value}{w:World}(p:RuleIn n w sh d r)(l:n<=w.heap.size):
  Calls prog 9 #[qam r sh d] w fun e w'=>Keep (fun b=>b<w.heap.size) w w'/\((qea r≠0/\e=.returned (.tuple #[.pointer none,.int .i64 (qea r)]))∨(qce r/\ ∃J vha vb vv va vt vh,e=.returned (.tuple #[qi J,.int .i64 0])/\
   JoinAt (fun b=>w.heap.size<=b/\b<w'.heap.size) w'.heap.size w' J r (qu r) (qd2 r.body r.body.length) vha vb vv va vt vh)):=by
 refine(qwo qra p l).mono ?_;rintro e w' ⟨g,c |⟨c,J,vha,vb,vv,va,vt,vh,s,h⟩⟩
 ·exact⟨g,.inl c⟩
 ·obtain⟨m,q,-⟩:=q74 c;rw [qfj q]at h;exact⟨g,.inr ⟨m,J,vha,vb,vv,va,vt,vh,s,h⟩⟩
end Go.Proofs
