/- Parts of the proof. -/
import Derived.Test.YtnponcjnahicnaaGreatDoorPnBToPnC
import Derived.Laws.EntriesVeiled
set_option linter.unusedSimpArgs false
set_option linter.unusedVariables false
set_option maxRecDepth 100000
set_option maxHeartbeats 2000000
open Go.Proofs.Tryz(prog)
open List(all_cons any_cons any_eq_true)
namespace Go.Proofs.P16
open Go.RowKit Go.Ink
attribute [local go_sem] Oper.semAt_some
def qa4 (t:TermD):Bool:=if t.var then qg9 t.text else qga t.text
def smallT (t:TermD):Prop:=t.text.size<=1073741824
def qc3 (t:TermD):Value:=.agg #[.bool t.var,.string t.text]
theorem qnx (t:TermD)(w:World):Calls prog 266 #[qc3 t] w fun e w'=>e=.returned (.bool (qa4 t))/\wD w w':=by
 obtain⟨v,s⟩:=t;unfold qc3;simp only;have j:=fun w=>qw8 s w;have k:=fun w=>qsw s w;have l:qa4 ⟨v,s⟩=if v then qg9 s else qga s:=rfl
 obtain⟨q,d⟩: ∃b,qg9 s=b:=⟨_,rfl⟩;obtain⟨u,f⟩: ∃b,qga s=b:=⟨_,rfl⟩;rw [d,f]at l;simp only [d]at j;simp only [f]at k;refine hd5 ?_ j k l d f;clear j k l d f;intro h i g m p;cases v
 ·go_enter Tryz.func266,Tryz.ntmps266
  go_wp2_with fail;refine(i.o _).mono ?_;rintro e r ⟨rfl,c⟩;have c:=c.symm;subst c;go_wp2_with fail;go_ret;exact⟨by rw [g.o];rfl,kAl⟩
 ·cases q
  all_goals go_enter Tryz.func266,Tryz.ntmps266
  all_goals go_wp2_with fail
  all_goals refine(h.o _).mono ?_
  all_goals (rintro e r ⟨rfl,c⟩;have c:=c.symm;subst c)
  all_goals go_wp2_with fail
  all_goals go_ret
  all_goals exact⟨by rw [g.o];rfl,kAl⟩
theorem quv (t:TermD)(w:World):Calls prog 265 #[qc3 t] w fun e w'=>e=.returned (.bool (!qa4 t))/\wD w w':=by
 have h:=fun w=>qnx t w;obtain⟨v,s⟩:=t;unfold qc3 at h⊢;simp only at h⊢;obtain⟨i,c⟩: ∃b,qa4 ⟨v,s⟩=b:=⟨_,rfl⟩;simp only [c]at h;rw [c];refine hd2 ?_ h c;clear h c;intro f d
 go_enter Tryz.func265,Tryz.ntmps265
 go_wp2_with fail;refine(f.o _).mono ?_;rintro e j ⟨rfl,g⟩;go_wp2_with fail;go_ret;exact⟨rfl,kAl.trans g⟩
def qch (a:qfx):Bool:=qdi a.pred&&decide (a.args.length<=16)&&a.args.all qa4
def smallA (a:qfx):Prop:=a.pred.size<=1073741824/\ ∀t,t∈a.args->smallT t
theorem qkg {α:Type}(p:α->Bool)(l:List α):l.any (fun x=>!p x)=!l.all p:=by
 induction l with
 |nil=>rfl
 |cons x r ih=>simp only [any_cons,all_cons,ih,Bool.not_and]
theorem qsz (n:Nat)(a:qfx)(u:Value)(w:World)(r:qad n w u a.args)(hn:n<=w.heap.size):Calls prog 252 #[.agg #[.string a.pred,u]] w fun e w'=>e=.returned (.bool (qch a))/\Keep (fun b=>b<w.heap.size) w w':=by
 obtain⟨pr,args⟩:=a;simp only at r⊢;have y:=fun w=>qnc pr w;have q:qch ⟨pr,args⟩=(qdi pr&&decide (args.length<=16)&&args.all qa4):=rfl;obtain⟨b1,i⟩: ∃b,qdi pr=b:=⟨_,rfl⟩;have g:=qkg qa4 args;obtain⟨b2,j⟩: ∃b,args.all qa4=b:=⟨_,rfl⟩;rw [j]at g;obtain⟨W0,f⟩:=ex (w.alloc (.cells #[.string pr,u] 24));have s:wD w W0:=by rw [←f];exact kAl
 have hz:=s.size;have z:=qht (gf:=265) (bs:= #[]) (lb:= #[]) (qc0 Tryz.func265 wA rfl) (fun t=>!qa4 t) n u args W0 (qq r s.mt) xz
  (fun x _ W _=>(quv x W).mono fun e w' ⟨e1,X⟩=>⟨e1,X.mt⟩)
 rw [g]at z;rw [i,j]at q;simp only [i]at y;obtain⟨aa,ca,rfl,al,ak,U⟩:=id r;have c1:W0.cell? ⟨w.heap.size,1,none⟩=some (.slice aa args.length ca):=by rw [←f];simp
 have l0:w.heap.size<W0.heap.size:=by rw [←f];simp
 clear U r g;have k:decide (args.length<=16)=decide ((args.length:Int)<=16):=by rw [yi];omega
 rw [k]at q;obtain⟨b3,h⟩: ∃b,decide ((args.length:Int)<=16)=b:=⟨_,rfl⟩;rw [h]at q;clear k;refine hd7 ?_ y z q i j s f;clear y z q i j s f;intro l v m Y ab p d;cases b1
 ·go_enter Tryz.func252,Tryz.ntmps252
  go_wp2_with fail;rw [d.o];refine(l.o _).mono ?_;rintro e w1 ⟨rfl,c⟩;have c:=c.symm;subst c;go_wp2_with fail;go_ret;exact⟨by rw [m.o];rfl,p.o.mt⟩
 ·cases b3
  ·have R: ¬(args.length:Int)<=16:=xS h;clear h
   go_enter Tryz.func252,Tryz.ntmps252
   go_wp2_with fail;rw [d.o];refine(l.o _).mono ?_;rintro e w1 ⟨rfl,c⟩;have c:=c.symm;subst c;go_wp2_with fail;go_ret;exact⟨by rw [m.o];rfl,p.o.mt⟩
  ·have R:(args.length:Int)<=16:=yD h;clear h
   go_enter Tryz.func252,Tryz.ntmps252
   go_wp2_with fail;rw [d.o];refine(l.o _).mono ?_;rintro e w1 ⟨rfl,c⟩;have c:=c.symm;subst c;go_wp2_with fail;refine v.o.mono ?_;rintro e W1 ⟨rfl,X⟩;go_wp2_with fail;go_ret;exact⟨by rw [m.o];cases b2<;>rfl,p.o.trans (X.mono fun b hb _=>xz) |>.mono fun b hb _=>wE⟩
theorem qh6 (t u:TermD)(W:World):(binOp .eql 77 (qc3 t) (qc3 u)).run prog W=.ok (.bool (decide (t=u))) W:=by
 obtain⟨a,s⟩:=t;obtain⟨b,r⟩:=u;have e:(s.toList=r.toList)=(s=r):=by rw [qf8,xB]
 unfold qc3;simp [go_sem,e];by_cases c:a=b<;>by_cases d:s=r<;>simp [c,d]
theorem qmg {a:ByteArray}(h:a≠⟨#[]⟩): ¬a.toList= []:=fun e=>by
 have:=qfr h;have b:(⟨#[]⟩:ByteArray).toList= []:=wA
 rw [e,b]at this;cases this
def qc4:TermD:=⟨false,⟨#[]⟩⟩
def qb3 (L:LitD):Bool:=
 if L.kind=1∨L.kind=2 then qch L.atom&&decide (L.left=qc4)&&decide (L.right=qc4)
 else if L.kind=3 then decide (L.atom.pred=⟨#[]⟩)&&decide (L.atom.args.length=0)&&qa4 L.left&&qa4 L.right
 else false
def qzj (L:LitD):Prop:=smallA L.atom/\smallT L.left/\smallT L.right
theorem q39 (n:Nat)(L:LitD)(sa:Value)(w:World)(ha:qad n w sa L.atom.args)(hn:n<=w.heap.size):Calls prog 254 #[qd0 L sa] w fun e w'=>e=.returned (.bool (qb3 L))/\Keep (fun b=>b<w.heap.size) w w':=by
 have U:=fun W (hW:qad n W sa L.atom.args) (h2:n<=W.heap.size)=>qsz n L.atom sa W hW h2;have Y:=fun W=>qnx L.left W;have ab:=fun W=>qnx L.right W;have d:=fun W=>qh6 L.left qc4 W;have f:=fun W=>qh6 L.right qc4 W;have hL:qb3 L=if L.kind=1∨L.kind=2 then qch L.atom&&decide (L.left=qc4)&&decide (L.right=qc4) else if L.kind=3 then decide (L.atom.pred=⟨#[]⟩)&&decide (L.atom.args.length=0)&&qa4 L.left&&qa4 L.right else false:=rfl
 obtain⟨bA,ah⟩: ∃b,qch L.atom=b:=⟨_,rfl⟩;obtain⟨ag,u⟩: ∃b,decide (L.left=qc4)=b:=⟨_,rfl⟩;obtain⟨ap,v⟩: ∃b,decide (L.right=qc4)=b:=⟨_,rfl⟩;obtain⟨aq,x⟩: ∃b,qa4 L.left=b:=⟨_,rfl⟩;obtain⟨aN,y⟩: ∃b,qa4 L.right=b:=⟨_,rfl⟩;obtain⟨bl,ai⟩: ∃b,qb3 L=b:=⟨_,rfl⟩;rw [ai];rw [ai,ah,u,v,x,y]at hL;simp only [ah]at U;simp only [x]at Y;simp only [y]at ab;simp only [u]at d;simp only [v]at f;clear ai ah u v x y;obtain⟨k,⟨pr,args⟩,⟨lv,lt⟩,⟨rv,rt⟩⟩:=L;unfold qd0;unfold qc3 qc4 at d f;unfold qc3 at Y ab;simp only at*;obtain⟨aa,ca,rfl,ay,ax,-⟩:=id ha;obtain⟨m,hm⟩:=ex (args.length);rw [hm]at hL ha U ay ax;rw [hm];obtain⟨nb,X⟩:=ex (w.heap.size);obtain⟨W0,t⟩:=ex ((w.alloc (.cells #[.int .i64 k,.string pr,.slice aa m ca,.bool lv,.string lt,.bool rv,.string rt] 79)).alloc (.cells #[.bool false,.string ⟨#[]⟩] 77));have k0:wD w W0:=by rw [←t];exact kAl.trans kAl
 have z:W0.heap[nb]?=some (.cells #[.int .i64 k,.string pr,.slice aa m ca,.bool lv,.string lt,.bool rv,.string rt] 79 (0,0)):=by rw [←t,←X];exact qec (qh _ _) _
 have b1:W0.heap[nb+1]?=some (.cells #[.bool false,.string ⟨#[]⟩] 77 (0,0)):=by
  rw [←t,←X];have:=qh (w.alloc (.cells #[.int .i64 k,.string pr,.slice aa m ca,.bool lv,.string lt,.bool rv,.string rt] 79)) (.cells #[.bool false,.string ⟨#[]⟩] 77)
  simpa using this
 have d0:=qb b1 0 _ rfl;have d1:=qb b1 1 _ rfl;have l1:=qe b1;simp only [zD]at d0 d1;have l0:=qe z;have ba:=k0.size;have ad:=U W0 (qq ha k0.mt) xz;have c0:=qb z 0 _ rfl;have c1:=qb z 1 _ rfl;have c2:=qb z 2 _ rfl;have c3:=qb z 3 _ rfl;have c4:=qb z 4 _ rfl;have c5:=qb z 5 _ rfl;have c6:=qb z 6 _ rfl;simp only [zD]at c0 c1 c2 c3 c4 c5 c6;clear ha U ay ax hm;refine hd9 ?_ hL ad Y ab k0 t X z b1;clear hL ad Y ab k0 t X z b1;intro ae af am an s i j a2 a3;by_cases l:k=1∨k=2
 ·have av:bl=(bA&&ag&&ap):=by rw [ae.o,zI l]
  refine hd1 ?_ av;clear av;intro ak;rcases l with rfl |rfl
  all_goals cases bA
  all_goals (try cases ag)
  all_goals go_enter Tryz.func254,Tryz.ntmps254
  all_goals go_wp2_with fail
  all_goals rw [i.o,j.o]
  all_goals refine af.o.mono ?_
  all_goals (rintro e W1 ⟨rfl,p⟩;have a4:=p.cell c3 l0;have a5:=p.cell c4 l0;have aR:=p.cell c5 l0;have aS:=p.cell c6 l0;have a6:=p.cell d0 l1;have a7:=p.cell d1 l1;have bb:=p.size;have aX:nb<W1.heap.size:=xz;have bf:nb+1<W1.heap.size:=xz;have kk:Keep (fun b=>b<nb) w W1:=s.o.mt.trans (p.mono fun b hb _=>xz);clear p c0 c1 c2 c3 c4 c5 c6 d0 d1;have R:=zg kk;clear kk)
  all_goals go_wp2_with fail
  all_goals go_ret
  all_goals exact⟨by rw [ak.o];(try cases ag)<;>(try cases ap)<;>rfl,R.o.mono fun b hb h=>by have:=j.o;omega⟩
 ·by_cases e3:k=3
  ·have c:bl=(decide (pr=⟨#[]⟩)&&decide (m=0)&&aq&&aN):=by rw [ae.o,zF l,zI e3]
   subst e3;by_cases hp:pr=⟨#[]⟩
   ·subst hp;rw [show decide ((⟨#[]⟩:ByteArray)=⟨#[]⟩)=true from rfl,yT]at c;by_cases az:m=0
    ·subst az;rw [show decide (0=0)=true from rfl,yT]at c;refine hd3 ?_ c d f;clear c d f;intro g q r;cases aq
     all_goals go_enter Tryz.func254,Tryz.ntmps254
     all_goals go_wp2_with fail
     all_goals rw [i.o]
     all_goals refine(am.o _).mono ?_
     all_goals (rintro e W1 ⟨rfl,p⟩;have aS:=p.cell c6 trivial;have aR:=p.cell c5 trivial;have aX:=p.size;have kk:Keep (fun b=>b<nb) w W1:=(s.o.mt.trans (p.mono fun b hb _=>wE));clear p c0 c1 c2 c3 c4 c5 c6 d0 d1;have R:=zg kk;clear kk)
     ·go_wp2_with fail;go_ret;exact⟨by rw [g.o];rfl,R.o.mono fun b hb h=>by have:=j.o;omega⟩
     ·rw [j.o];go_wp2_with fail;refine(an.o _).mono ?_;rintro e W2 ⟨rfl,k2⟩;go_wp2_with fail;go_ret;exact⟨by rw [g.o];rfl,(R.o.trans k2.mt).mono fun b hb h=>by have:=j.o;omega⟩
    ·have a8: ¬(m:Int)=0:=by omega
     rw [zM az,yY,yY]at c;refine hd3 ?_ c d f;clear c d f;intro g q r
     go_enter Tryz.func254,Tryz.ntmps254
     go_wp2_with fail;go_ret;exact⟨by rw [g.o];rfl,by rw [i.o];exact s.o.mt⟩
   ·rw [zM hp,yY,yY,yY]at c;have a9:=qmg hp;refine hd3 ?_ c d f;clear c d f;intro g q r
    go_enter Tryz.func254,Tryz.ntmps254
    go_wp2_with fail;go_ret;exact⟨by rw [g.o];rfl,by rw [i.o];exact s.o.mt⟩
  ·have aw:bl=false:=by rw [ae.o,zF l,zF e3]
   have e1: ¬k=1:=fun h=>l (.inl h);have e2: ¬k=2:=fun h=>l (.inr h);clear l;refine hd3 ?_ aw d f;clear aw d f;intro al q r
   go_enter Tryz.func254,Tryz.ntmps254
   go_wp2_with fail;go_ret;exact⟨by rw [al.o];rfl,by rw [i.o];exact s.o.mt⟩
def qak (r:RuleD):Bool:=decide (r.body.length<=256)&&qch r.head&&r.body.all qb3
def qs0 (r:RuleD):Prop:=smallA r.head/\ ∀L,L∈r.body->qzj L
def qaz (r:RuleD)(sh sb:Value):Value:=.agg #[.string r.head.pred,sh,sb]
theorem qxa (n:Nat)(L:LitD)(f:Value)(w:World)(d:qad n w f L.atom.args)(u:n<=w.heap.size):Calls prog 253 #[qd0 L f] w fun e w'=>e=.returned (.bool (!qb3 L))/\Keep (fun b=>b<w.heap.size) w w':=by
 have h:=fun W (hK:wD w W)=>q39 n L f W (qq d hK.mt) (by have:=hK.size;omega);obtain⟨q,s,rfl,-,-,-⟩:=id d;obtain⟨k,⟨pr,args⟩,⟨l,lt⟩,⟨p,m⟩⟩:=L;unfold qd0 at h⊢;simp only at h⊢;obtain⟨r,c⟩: ∃b,qb3 ⟨k,⟨pr,args⟩,⟨l,lt⟩,⟨p,m⟩⟩=b:=⟨_,rfl⟩;simp only [c]at h;rw [c];clear d;refine hd2 ?_ h c;clear h c;intro i g
 go_enter Tryz.func253,Tryz.ntmps253
 go_wp2_with fail;refine(i.o _ kAl).mono ?_;rintro e v ⟨rfl,j⟩;go_wp2_with fail;go_ret;exact⟨rfl,kAl.trans (j.mono fun b t _=>by simp;omega)⟩
theorem qxb (n:Nat)(r:RuleD)(sh sb:Value)(w:World)(hr:RuleIn n w sh sb r)(hn:n<=w.heap.size):Calls prog 237 #[qaz r sh sb] w fun e w'=>e=.returned (.bool (qak r))/\Keep (fun b=>b<w.heap.size) w w':=by
 obtain⟨⟨pr,args⟩,body⟩:=r;obtain⟨z,s⟩:=hr;unfold qaz;simp only at z s⊢;have y:qak ⟨⟨pr,args⟩,body⟩=(decide (body.length<=256)&&qch ⟨pr,args⟩&&body.all qb3):=rfl;have m:=fun W (hK:wD w W)=>qsz n ⟨pr,args⟩ sh W (qq z hK.mt) (by have:=hK.size;omega);have f:=fun W (hK:Keep (fun b=>b<w.heap.size) w W)=>qj6 (gf:=253) (bs:= #[]) (lb:= #[]) (qc0 Tryz.func253 wA rfl) (fun L=>!qb3 L) n sb body W (qid s (hK.mono fun b _ h=>xz)) (by have:=hK.size;omega)
  (fun x _ W2 U sa Y=>(qxa n x sa W2 Y (by have:=hK.size;have:=U.size;omega)).mono fun e w' ⟨e1,t⟩=>⟨e1,t⟩)
 rw [qkg qb3 body]at f;obtain⟨bA,p⟩: ∃b,qch ⟨pr,args⟩=b:=⟨_,rfl⟩;obtain⟨bL,q⟩: ∃b,body.all qb3=b:=⟨_,rfl⟩;rw [p,q,show decide (body.length<=256)=decide ((body.length:Int)<=256) from by rw [yi];omega]at y;simp only [p]at m;simp only [q]at f;obtain⟨aa,ca,rfl,-,-,-⟩:=id z;obtain⟨ab,cb,rfl,ap,ao,-⟩:=id s;obtain⟨W0,c⟩:=ex (w.alloc (.cells #[.string pr,.slice aa args.length ca,.slice ab body.length cb] 27));have R:wD w W0:=by rw [←c];exact kAl
 have hz:=R.size;have c2:W0.cell? ⟨w.heap.size,2,none⟩=some (.slice ab body.length cb):=by rw [←c];simp
 have l0:w.heap.size<W0.heap.size:=by rw [←c];simp
 have i:=m W0 R;clear z s p q m;obtain⟨b3,d⟩: ∃b,decide ((body.length:Int)<=256)=b:=⟨_,rfl⟩;rw [d]at y;refine hd5 ?_ y i f R c;clear y i f R c;intro j k u v g;cases b3
 ·have X: ¬(body.length:Int)<=256:=xS d;clear d
  go_enter Tryz.func237,Tryz.ntmps237
  go_wp2_with fail;go_ret;exact⟨by rw [j.o];rfl,by rw [g.o];exact v.o.mt⟩
 ·have X:(body.length:Int)<=256:=yD d;clear d;cases bA
  all_goals go_enter Tryz.func237,Tryz.ntmps237
  all_goals go_wp2_with fail
  all_goals rw [g.o]
  all_goals refine k.o.mono ?_
  all_goals (rintro e W1 ⟨rfl,t⟩;have am:=t.cell c2 l0;have ar:=t.size;have kk:Keep (fun b=>b<w.heap.size) w W1:=v.o.mt.trans (t.mono fun b s _=>xz);clear t c2;have l:=zg kk;clear kk)
  ·go_wp2_with fail;go_ret;exact⟨by rw [j.o];rfl,l.o⟩
  ·go_wp2_with fail;refine(u.o _ l.o).mono ?_;rintro e W2 ⟨rfl,k2⟩;go_wp2_with fail;go_ret;exact⟨by rw [j.o];cases bL<;>rfl,l.o.trans (k2.mono fun b s _=>xz)⟩
def qha (n:Int):Bool:=decide (n<0) ||decide (2147483647<n)
def qhu (s:qaj):Bool:=qha s.rows ||s.dist.any qha
def qbo (l:List qaj):Bool:=!l.any qhu
theorem qvt (x:Int)(w:World):Calls prog 255 #[.int .i64 x] w fun e w'=>e=.returned (.bool (qha x))/\w'=w:=by
 by_cases h:x<0
 ·have c:qha x=true:=by unfold qha;rw [zS h];rfl
  refine hd1 ?_ c;clear c;intro b
  go_enter Tryz.func255,Tryz.ntmps255
  go_wp2_with fail;go_ret;exact⟨by rw [b.o];rfl,rfl⟩
 ·have c:qha x=decide (2147483647<x):=by unfold qha;rw [zM h];rfl
  refine hd1 ?_ c;clear c;intro b
  go_enter Tryz.func255,Tryz.ntmps255
  go_wp2_with fail;go_ret;exact⟨by rw [b.o];rfl,rfl⟩
theorem qzk (n B:Nat)(s:qaj)(u:Value)(w:World)(k:qan n w u s.dist)(Y:n<=w.heap.size)(z:w.cell? ⟨B,0,none⟩=some (.func (.func 255) #[] #[])):
  Calls prog 257 #[qk2 s u,.pointer (some ⟨B,0,none⟩)] w fun e w'=>e=.returned (.bool (qhu s))/\Keep (fun b=>b<w.heap.size) w w':=by
 obtain⟨pr,rows,d⟩:=s;unfold qk2;simp only at k⊢;have r:qhu ⟨pr,rows,d⟩=(qha rows ||d.any qha):=rfl;have p:=fun w=>qvt rows w;have q:=fun W (hK:Keep (fun b=>b<w.heap.size) w W)=>quu (gf:=255) (bs:= #[]) (lb:= #[]) (qc0 Tryz.func255 wA rfl) qha n u d W (qig k (hK.mono fun b _ h=>xz)) (by have:=hK.size;omega)
  (fun x _ v _=>(qvt x v).mono fun e w' ⟨e1,t⟩=>⟨e1,by subst t;exact Keep.refl _ _⟩)
 obtain⟨y,f⟩: ∃b,qha rows=b:=⟨_,rfl⟩;obtain⟨U,g⟩: ∃b,d.any qha=b:=⟨_,rfl⟩;rw [f,g]at r;simp only [f]at p;simp only [g]at q;obtain⟨a,c,rfl,-,-,-⟩:=id k;have l0:B<w.heap.size:=zQ w _ z;clear k f g;refine hd3 ?_ r p q;clear r p q;intro j l m;cases y
 all_goals go_enter Tryz.func257,Tryz.ntmps257
 all_goals go_wp2_with fail
 all_goals refine(l.o _).mono ?_
 all_goals (rintro e R ⟨rfl,i⟩;have i:=i.symm;subst i)
 all_goals go_wp2_with fail
 ·refine(m.o _ kAl).mono ?_;rintro e R ⟨rfl,t⟩;go_wp2_with fail;go_ret;exact⟨by rw [j.o];rfl,kAl.trans (t.mono fun b X _=>by simp;omega)⟩
 ·go_ret;exact⟨by rw [j.o];rfl,kAl⟩
theorem qxc (n:Nat)(l:List qaj)(v:Value)(w:World)(q:SizesIn n w v l)(X:n<=w.heap.size):Calls prog 238 #[v] w fun e w'=>e=.returned (.bool (qbo l))/\Keep (fun b=>b<w.heap.size) w w':=by
 have p:qbo l=!l.any qhu:=rfl;obtain⟨W0,d⟩:=ex (w.alloc (.cells #[.func (.func 255) #[] #[]] 190));have h:wD w W0:=by rw [←d];exact kAl
 have Y:=h.size;have t:W0.cell? ⟨w.heap.size,0,none⟩=some (.func (.func 255) #[] #[]):=by rw [←d];simp
 have y:w.heap.size<W0.heap.size:=by rw [←d];simp
 have m:=qsy (gf:=257) (bs:= #[]) (lb:= #[.pointer (some ⟨w.heap.size,0,none⟩)]) (qc0 Tryz.func257 wA rfl) qhu n v l W0 (q.keep h.mt) xz
  (fun x _ s hK z r=>qzk n w.heap.size x z s r (by have:=hK.size;omega) (hK.cell t y))
 obtain⟨R,f⟩: ∃b,l.any qhu=b:=⟨_,rfl⟩;rw [f]at p;rw [f]at m;obtain⟨a,c,rfl,-,-,-⟩:=id q;clear q f;refine hd4 ?_ p m h d;clear p m h d;intro j i k g
 go_enter Tryz.func238,Tryz.ntmps238
 go_wp2_with fail;rw [g.o];refine i.o.mono ?_;rintro e w1 ⟨rfl,u⟩;go_wp2_with fail;go_ret;exact⟨by rw [j.o];rfl,k.o.trans (u.mono fun b U _=>xz) |>.mt⟩
def qb8 (K:List ByteArray)(t:TermD):Bool:=t.var&&!decide (t.text∈K)
def qel (L:LitD):List TermD:=if L.kind=3 then [L.left,L.right] else L.atom.args
def qcj (K:List ByteArray)(L:LitD):Bool:=decide (L.kind=1) ||!(qel L).any (qb8 K)
theorem qzl (w:World):(zeroValue 4).run prog w=.ok (.bool false) w:=wA
theorem qny (M:Nat)(K:List ByteArray)(t:TermD)(w:World)(f:SetIn w M K):Calls prog 241 #[.map (some M),qc3 t] w fun e w'=>e=.returned (.bool (qb8 K t))/\wD w w':=by
 obtain⟨v,s⟩:=t;unfold qc3;simp only;have d:qb8 K ⟨v,s⟩=(v&&!decide (s∈K)):=rfl;have i:=fun w (h:SetIn w M K)=>qh1 (P:=prog) (T:=292) (K:=9) (E:=4) Tryz.underlying292 Tryz.underlying9 qzl h s;obtain⟨b,g⟩:=ex (decide (s∈K));rw [g]at d;simp only [g]at i;have j:=i (w.alloc (.cells #[.bool v,.string s] 77)) (f.keep (Keep.alloc (fun _=>True) _ _) wE);clear i g;refine hd2 ?_ f d;clear f d;intro k c;cases v
 ·clear j
  go_enter Tryz.func241,Tryz.ntmps241
  go_wp2_with fail;go_ret;exact⟨by rw [c.o];rfl,kAl⟩
 ·go_enter Tryz.func241,Tryz.ntmps241
  go_wp2_with fail;go_ret;exact⟨by rw [c.o];rfl,kAl⟩
theorem qxd (n:Nat)(L:LitD)(p:Value)(w:World)(d:qad n w p L.atom.args)(y:n<=w.heap.size):Calls prog 240 #[qd0 L p] w fun e w'=> ∃sv,e=.returned sv/\qad w'.heap.size w' sv (qel L)/\wD w w':=by
 obtain⟨q,r,rfl,-,-,-⟩:=id d;obtain⟨k,⟨pr,args⟩,⟨h,lt⟩,⟨l,i⟩⟩:=L;unfold qd0;simp only at d⊢;by_cases m:k=3
 ·subst m;have hT:qel ⟨3,⟨pr,args⟩,⟨h,lt⟩,⟨l,i⟩⟩= [⟨h,lt⟩,⟨l,i⟩]:=rfl;refine hd2 ?_ d hT;clear d hT;intro f b
  go_enter Tryz.func240,Tryz.ntmps240
  go_wp2_with fail;go_ret;refine⟨_,rfl,?_,kAl.trans kAl⟩;rw [b.o];have g:=qb (qh (w.alloc (.cells #[.int .i64 3,.string pr,.slice q args.length r,.bool h,.string lt,.bool l,.string i] 79)) (.cells #[.bool h,.string lt,.bool l,.string i] 77));simp only [zO]at g;have s:=g 0 _ rfl;have t:=g 1 _ rfl;have u:=g 2 _ rfl;have v:=g 3 _ rfl;refine⟨_,_,rfl,wB,by simp [maxLen],fun j x c=>⟨_,0,rfl,wB,?_⟩⟩
  match j,c with
  |0,c=>simp at c;subst c;exact⟨s,t⟩
  |1,c=>simp at c;subst c;exact⟨u,v⟩
 ·have hT:qel ⟨k,⟨pr,args⟩,⟨h,lt⟩,⟨l,i⟩⟩=args:=by unfold qel;rw [zF m]
  refine hd2 ?_ d hT;clear d hT;intro f b
  go_enter Tryz.func240,Tryz.ntmps240
  go_wp2_with fail;go_ret;refine⟨_,rfl,?_,kAl⟩;rw [b.o];exact qfm (qq f.o ((Keep.alloc (fun _=>True) _ _).mt)) (by simp;omega)
theorem qqo (n M:Nat)(K:List ByteArray)(L:LitD)(z:Value)(w:World)(t:SetIn w M K)(u:qad n w z L.atom.args)(hn:n<=w.heap.size):Calls prog 209 #[.map (some M),qd0 L z] w fun e w'=>e=.returned (.bool (qcj K L))/\Keep (fun b=>b<w.heap.size) w w':=by
 have Y:=t.lt;have h:=fun W (hK:wD w W)=>qxd n L z W (qq u hK.mt) (by have:=hK.size;omega);have m:=fun W (hK:Keep (fun b=>b<w.heap.size) w W) q (c:qad W.heap.size W q (qel L))=>qht (gf:=241) (bs:= #[.map (some M)]) (lb:= #[]) (qc0 Tryz.func241 wA rfl) (qb8 K) W.heap.size q (qel L) W c (zG _)
  (fun x _ X s=>(qny M K x X (t.keep (hK.trans (s.mono fun b _ _=>by have:=hK.size;omega)) Y)).mono fun e w' ⟨e1,p⟩=>⟨e1,p.mt⟩)
 have f:qcj K L=(decide (L.kind=1) ||!(qel L).any (qb8 K)):=rfl;obtain⟨b2,g⟩: ∃b,(qel L).any (qb8 K)=b:=⟨_,rfl⟩;rw [g]at f;simp only [g]at m;obtain⟨aa,ca,rfl,-,-,-⟩:=id u;obtain⟨k,⟨pr,args⟩,⟨lv,lt⟩,⟨rv,rt⟩⟩:=L;unfold qd0 at h⊢;simp only at h f⊢;clear g u t;by_cases v:k=1
 ·subst v;refine hd3 ?_ h m f;clear h m f;intro i j d
  go_enter Tryz.func209,Tryz.ntmps209
  go_wp2_with fail;go_ret;exact⟨by rw [d.o];rfl,kAl⟩
 ·rw [zM v,xG]at f;refine hd3 ?_ h m f;clear h m f;intro i j d
  go_enter Tryz.func209,Tryz.ntmps209
  go_wp2_with fail;refine(i.o _ kAl).mono ?_;rintro e U ⟨q,rfl,c,p⟩;have y:wD w U:=kAl.trans p;have R:=j.o U y.mt q c;obtain⟨a3,c3,rfl,-,-,-⟩:=id c;clear c p;refine hd2 ?_ R y;clear R y;intro r l;go_wp2_with fail;refine r.o.mono ?_;rintro e w2 ⟨rfl,k3⟩;go_wp2_with fail;go_ret;exact⟨by rw [d.o];show Ending.returned (.bool (k==1 ||!b2))=_;rw [yZ.2 v];rfl,l.o.trans (k3.mono fun b hb _=>by have:=l.o.size;omega) |>.mt⟩
def qpr (x:ByteArray)(xs:List ByteArray):Int:=qbv (fun y=>decide (x=y)) xs
theorem q4a (x:ByteArray)(xs:List ByteArray):decide (qpr x xs≥0)=decide (x∈xs):=by
 unfold qpr;rw [qw9];rw [yt,any_eq_true,zT];exact⟨fun⟨y,h1,h2⟩=>by rw [yD h2];exact h1,fun h=>⟨x,h,wB⟩⟩
theorem qqp {x:ByteArray}{xs:List ByteArray}(h:x∉xs):xs.any (fun y=>decide (x=y))=false:=by
 rw [xY];intro y b e;exact h (by rw [yD e];exact b)
theorem qzm (n:Nat)(va:Value)(xs:List ByteArray)(x:ByteArray)(w:World)(s:qal n w va xs)(hn:n<=w.heap.size):
  Calls prog 260 #[va,.string x] w fun e w'=>e=.returned (.int .i64 (qpr x xs))/\w'=w:=by
 obtain⟨aa,ca,rfl,ai,ag,p⟩:=id s;refine hd2 ?_ s p;clear s p;intro X l
 go_enter Tryz.func260,Tryz.ntmps260
 go_wp2_with fail
 go_loopw [8] (fun i wr=> ∃k:Nat,k<=xs.length/\i=.int .i64 (k:Int)/\wr=w/\x∉xs.take k) (fun i _=>xs.length-(intOf i).toNat)
 case atStart=>exact⟨0,xz,rfl,rfl,wB⟩
 case round=>
  obtain⟨k,hk,rfl,v,b⟩:=hrel;have v:=v.symm;subst v;by_cases t:k<xs.length
  ·obtain⟨y,r⟩: ∃x,xs[k]?=some x:=⟨_,zB t⟩;obtain⟨Y,oa,rfl,af,R⟩:=l.o k y r;unfold qf2 at R;simp only [yA]at R;have ae:Y<w.heap.size:=by omega
   have U:(k:Int)<xs.length:=xz
   have ah:(0:Int)<=k:=xz
   have c: ∀z,z∉xs.take k-> ¬z=y->z∉xs.take (k+1):=fun z h1 h2=>by
    rw [zh,r];simp only [Option.toList_some,zn,zl,not_or];exact⟨h1,h2⟩
   by_cases d:x=y
   ·have u:=qhs d;have h:=(show qpr x xs=(k:Int) from qff (fun y=>decide (x=y)) xs k y r (qqp b) (zS d));clear b r d c;refine hd1 ?_ h;clear h;intro j;go_wp2_with fail;go_ret;exact⟨by rw [j.o];try rfl,rfl⟩
   ·have u:=qfr d;have f:=c x b d;clear b r d c;refine hd1 ?_ f;clear f;intro g;go_wp2_with fail;go_roundw
    case rel=>exact⟨k+1,xz,by go_num,by trivial,g.o⟩
    case measure=>simp [intOf];omega
  ·have q:=(show qpr x xs= -1 from qfe (fun y=>decide (x=y)) xs (qqp (by rwa [yw xz] at b)));clear b;refine hd1 ?_ q;clear q;intro m;go_wp2_with fail;go_ret;exact⟨by rw [m.o];try rfl,rfl⟩
theorem qs1 (n:Nat)(va:Value)(xs:List ByteArray)(x:ByteArray)(w:World)(d:qal n w va xs)(j:n<=w.heap.size):
  Calls prog 247 #[va,.string x] w fun e w'=>e=.returned (.bool (decide (x∈xs)))/\w'=w:=by
 have c:=fun w (d:qal n w va xs) j=>qzm n va xs x w d j;have c:=c w d j;have h:=q4a x xs;obtain⟨i,hi⟩:=ex (qpr x xs);rw [hi]at c h;obtain⟨l,m,rfl,-,-,-⟩:=id d;clear d;refine hd3 ?_ c h hi;clear c h hi;intro f g k
 go_enter Tryz.func247,Tryz.ntmps247
 go_wp2_with fail;refine f.o.mono ?_;rintro e p ⟨rfl,b⟩;have b:=b.symm;subst b;go_wp2_with fail;go_ret;exact⟨by rw [←g.o];rfl,rfl⟩
end Go.Proofs.P16
