/- Parts of the proof. -/
import Derived.Test.YtnponcjnahicnaaGreatPnBToPnD
import Derived.Laws.EntriesVeiled
set_option linter.unusedSimpArgs false
set_option linter.unusedVariables false
set_option maxRecDepth 100000
set_option maxHeartbeats 2000000
open Go.Proofs.Tryz(prog)
open List(any_eq_true)
namespace Go.Proofs.P16
open Go.RowKit Go.Ink
attribute [local go_sem] Oper.semAt_some
theorem qi1 (t u:TermD)(W:World):(binOp .eql 60 (qc3 t) (qc3 u)).run prog W=.ok (.bool (decide (t=u))) W:=by
 obtain⟨a,s⟩:=t;obtain⟨b,r⟩:=u;have e:(s.toList=r.toList)=(s=r):=by rw [qg6,xE]
 unfold qc3;simp [go_sem,e];by_cases d:a=b<;>by_cases c:s=r<;>simp [d,c]
theorem qnr {a:ByteArray}(h:a≠⟨#[]⟩): ¬a.toList= []:=fun e=>by
 have:=qgp h;have b:(⟨#[]⟩:ByteArray).toList= []:=wD
 rw [e,b]at this;cases this
def qdr:TermD:=⟨false,⟨#[]⟩⟩
def qcq (L:LitD):Bool:=
 if L.kind=1∨L.kind=2 then qc4 L.atom&&decide (L.left=qdr)&&decide (L.right=qdr)
 else if L.kind=3 then decide (L.atom.pred=⟨#[]⟩)&&decide (L.atom.args.length=0)&&qbi L.left&&qbi L.right
 else false
def q2k (L:LitD):Prop:=smallA L.atom/\smallT L.left/\smallT L.right
theorem q7n (n:Nat)(L:LitD)(sa:Value)(w:World)(ha:qai n w sa L.atom.args)(hn:n<=w.heap.size):Calls prog 185 #[qew L sa] w fun e w'=>e=.returned (.bool (qcq L))/\Keep (fun b=>b<w.heap.size) w w':=by
 have af:=fun W (hW:qai n W sa L.atom.args) (h2:n<=W.heap.size)=>qu1 n L.atom sa W hW h2;have Y:=fun W=>qpn L.left W;have ae:=fun W=>qpn L.right W;have c:=fun W=>qi1 L.left qdr W;have g:=fun W=>qi1 L.right qdr W;have hL:qcq L=if L.kind=1∨L.kind=2 then qc4 L.atom&&decide (L.left=qdr)&&decide (L.right=qdr) else if L.kind=3 then decide (L.atom.pred=⟨#[]⟩)&&decide (L.atom.args.length=0)&&qbi L.left&&qbi L.right else false:=rfl
 obtain⟨bA,ak⟩: ∃b,qc4 L.atom=b:=⟨_,rfl⟩;obtain⟨ai,x⟩: ∃b,decide (L.left=qdr)=b:=⟨_,rfl⟩;obtain⟨aA,z⟩: ∃b,decide (L.right=qdr)=b:=⟨_,rfl⟩;obtain⟨aq,U⟩: ∃b,qbi L.left=b:=⟨_,rfl⟩;obtain⟨aV,u⟩: ∃b,qbi L.right=b:=⟨_,rfl⟩;obtain⟨bl,ah⟩: ∃b,qcq L=b:=⟨_,rfl⟩;rw [ah];rw [ah,ak,x,z,U,u]at hL;simp only [ak]at af;simp only [U]at Y;simp only [u]at ae;simp only [x]at c;simp only [z]at g;clear ah ak x z U u;obtain⟨k,⟨pr,args⟩,⟨lv,lt⟩,⟨rv,rt⟩⟩:=L;unfold qew;unfold qc3 qdr at c g;unfold qc3 at Y ae;simp only at*;obtain⟨aa,ca,rfl,aw,ao,-⟩:=id ha;obtain⟨m,hm⟩:=ex (args.length);rw [hm]at hL ha af aw ao;rw [hm];obtain⟨nb,ad⟩:=ex (w.heap.size);obtain⟨W0,y⟩:=ex ((w.alloc (.cells #[.int .i64 k,.string pr,.slice aa m ca,.bool lv,.string lt,.bool rv,.string rt] 64)).alloc (.cells #[.bool false,.string ⟨#[]⟩] 60));have k0:wG w W0:=by rw [←y];exact kAl.trans kAl
 have X:W0.heap[nb]?=some (.cells #[.int .i64 k,.string pr,.slice aa m ca,.bool lv,.string lt,.bool rv,.string rt] 64 (0,0)):=by rw [←y,←ad];exact qf3 (qh _ _) _
 have b1:W0.heap[nb+1]?=some (.cells #[.bool false,.string ⟨#[]⟩] 60 (0,0)):=by
  rw [←y,←ad];have:=qh (w.alloc (.cells #[.int .i64 k,.string pr,.slice aa m ca,.bool lv,.string lt,.bool rv,.string rt] 64)) (.cells #[.bool false,.string ⟨#[]⟩] 60)
  simpa using this
 have d0:=qb b1 0 _ rfl;have d1:=qb b1 1 _ rfl;have l1:=qe b1;simp only [zD]at d0 d1;have l0:=qe X;have bb:=k0.size;have ag:=af W0 (qak ha k0.mt) wC;have c0:=qb X 0 _ rfl;have c1:=qb X 1 _ rfl;have c2:=qb X 2 _ rfl;have c3:=qb X 3 _ rfl;have c4:=qb X 4 _ rfl;have c5:=qb X 5 _ rfl;have c6:=qb X 6 _ rfl;simp only [zD]at c0 c1 c2 c3 c4 c5 c6;clear ha af aw ao hm;refine hd9 ?_ hL ag Y ae k0 y ad X b1;clear hL ag Y ae k0 y ad X b1;intro al aj av ap t p q bc bd;by_cases s:k=1∨k=2
 ·have au:bl=(bA&&ai&&aA):=by rw [al.o,zI s]
  refine hd1 ?_ au;clear au;intro az;rcases s with rfl |rfl
  all_goals cases bA
  all_goals (try cases ai)
  all_goals go_enter Tryz.func185,Tryz.ntmps185
  all_goals go_wp2_with fail
  all_goals rw [p.o,q.o]
  all_goals refine aj.o.mono ?_
  all_goals (rintro e W1 ⟨rfl,r⟩;have a9:=r.cell c3 l0;have bg:=r.cell c4 l0;have aO:=r.cell c5 l0;have aT:=r.cell c6 l0;have ba:=r.cell d0 l1;have a6:=r.cell d1 l1;have a4:=r.size;have aP:nb<W1.heap.size:=wC;have a5:nb+1<W1.heap.size:=wC;have kk:Keep (fun b=>b<nb) w W1:=t.o.mt.trans (r.mono fun b hb _=>wC);clear r c0 c1 c2 c3 c4 c5 c6 d0 d1;have ab:=zg kk;clear kk)
  all_goals go_wp2_with fail
  all_goals go_ret
  all_goals exact⟨by rw [az.o];(try cases ai)<;>(try cases aA)<;>rfl,ab.o.mono fun b hb h=>by have:=q.o;omega⟩
 ·by_cases e3:k=3
  ·have d:bl=(decide (pr=⟨#[]⟩)&&decide (m=0)&&aq&&aV):=by rw [al.o,zF s,zI e3]
   subst e3;by_cases hp:pr=⟨#[]⟩
   ·subst hp;rw [show decide ((⟨#[]⟩:ByteArray)=⟨#[]⟩)=true from rfl,yW]at d;by_cases aC:m=0
    ·subst aC;rw [show decide (0=0)=true from rfl,yW]at d;refine hd3 ?_ d c g;clear d c g;intro l v R;cases aq
     all_goals go_enter Tryz.func185,Tryz.ntmps185
     all_goals go_wp2_with fail
     all_goals rw [p.o]
     all_goals refine(av.o _).mono ?_
     all_goals (rintro e W1 ⟨rfl,r⟩;have aT:=r.cell c6 trivial;have aO:=r.cell c5 trivial;have aP:=r.size;have kk:Keep (fun b=>b<nb) w W1:=(t.o.mt.trans (r.mono fun b hb _=>wH));clear r c0 c1 c2 c3 c4 c5 c6 d0 d1;have ab:=zg kk;clear kk)
     ·go_wp2_with fail;go_ret;exact⟨by rw [l.o];rfl,ab.o.mono fun b hb h=>by have:=q.o;omega⟩
     ·rw [q.o];go_wp2_with fail;refine(ap.o _).mono ?_;rintro e W2 ⟨rfl,k2⟩;go_wp2_with fail;go_ret;exact⟨by rw [l.o];rfl,(ab.o.trans k2.mt).mono fun b hb h=>by have:=q.o;omega⟩
    ·have bf: ¬(m:Int)=0:=by omega
     rw [zM aC,y8,y8]at d;refine hd3 ?_ d c g;clear d c g;intro l v R
     go_enter Tryz.func185,Tryz.ntmps185
     go_wp2_with fail;go_ret;exact⟨by rw [l.o];rfl,by rw [p.o];exact t.o.mt⟩
   ·rw [zM hp,y8,y8,y8]at d;have a8:=qnr hp;refine hd3 ?_ d c g;clear d c g;intro l v R
    go_enter Tryz.func185,Tryz.ntmps185
    go_wp2_with fail;go_ret;exact⟨by rw [l.o];rfl,by rw [p.o];exact t.o.mt⟩
  ·have ax:bl=false:=by rw [al.o,zF s,zF e3]
   have e1: ¬k=1:=fun h=>s (.inl h);have e2: ¬k=2:=fun h=>s (.inr h);clear s;refine hd3 ?_ ax c g;clear ax c g;intro ar v R
   go_enter Tryz.func185,Tryz.ntmps185
   go_wp2_with fail;go_ret;exact⟨by rw [ar.o];rfl,by rw [p.o];exact t.o.mt⟩
def qaq (r:RuleD):Bool:=decide (r.body.length<=256)&&qc4 r.head&&r.body.all qcq
def qu2 (r:RuleD):Prop:=smallA r.head/\ ∀L,L∈r.body->q2k L
def qam (r:RuleD)(sh sb:Value):Value:=.agg #[.string r.head.pred,sh,sb]
theorem qzx (n:Nat)(L:LitD)(sa:Value)(w:World)(d:qai n w sa L.atom.args)(s:n<=w.heap.size):Calls prog 184 #[qew L sa] w fun e w'=>e=.returned (.bool (!qcq L))/\Keep (fun b=>b<w.heap.size) w w':=by
 have h:=fun W (hK:wG w W)=>q7n n L sa W (qak d hK.mt) (by have:=hK.size;omega);obtain⟨v,x,rfl,-,-,-⟩:=id d;obtain⟨k,⟨pr,args⟩,⟨q,lt⟩,⟨m,l⟩⟩:=L;unfold qew at h⊢;simp only at h⊢;obtain⟨u,c⟩: ∃b,qcq ⟨k,⟨pr,args⟩,⟨q,lt⟩,⟨m,l⟩⟩=b:=⟨_,rfl⟩;simp only [c]at h;rw [c];clear d;refine hd2 ?_ h c;clear h c;intro p g
 go_enter Tryz.func184,Tryz.ntmps184
 go_wp2_with fail;refine(p.o _ kAl).mono ?_;rintro e y ⟨rfl,r⟩;go_wp2_with fail;go_ret;exact⟨rfl,kAl.trans (r.mono fun b t _=>by simp;omega)⟩
theorem qzy (n:Nat)(r:RuleD)(sh sb:Value)(w:World)(hr:RuleIn n w sh sb r)(hn:n<=w.heap.size):Calls prog 168 #[qam r sh sb] w fun e w'=>e=.returned (.bool (qaq r))/\Keep (fun b=>b<w.heap.size) w w':=by
 obtain⟨⟨pr,args⟩,body⟩:=r;obtain⟨hh,z⟩:=hr;unfold qam;simp only at hh z⊢;have X:qaq ⟨⟨pr,args⟩,body⟩=(decide (body.length<=256)&&qc4 ⟨pr,args⟩&&body.all qcq):=rfl;have u:=fun W (hK:wG w W)=>qu1 n ⟨pr,args⟩ sh W (qak hh hK.mt) (by have:=hK.size;omega);have g:=fun W (hK:Keep (fun b=>b<w.heap.size) w W)=>qk7 (gf:=184) (bs:= #[]) (lb:= #[]) (qdg Tryz.func184 wD rfl) (fun L=>!qcq L) n sb body W (qi7 z (hK.mono fun b _ h=>wC)) (by have:=hK.size;omega)
  (fun x _ W2 ag sa ah=>(qzx n x sa W2 ah (by have:=hK.size;have:=ag.size;omega)).mono fun e w' ⟨e1,y⟩=>⟨e1,y⟩)
 rw [qlh qcq body]at g;obtain⟨bA,v⟩: ∃b,qc4 ⟨pr,args⟩=b:=⟨_,rfl⟩;obtain⟨bL,t⟩: ∃b,body.all qcq=b:=⟨_,rfl⟩;rw [v,t,show decide (body.length<=256)=decide ((body.length:Int)<=256) from by rw [yl];omega]at X;simp only [v]at u;simp only [t]at g;obtain⟨aa,ca,rfl,-,-,-⟩:=id hh;obtain⟨ab,cb,rfl,av,ax,-⟩:=id z;obtain⟨W0,c⟩:=ex (w.alloc (.cells #[.string pr,.slice aa args.length ca,.slice ab body.length cb] 27));have Y:wG w W0:=by rw [←c];exact kAl
 have hz:=Y.size;have c2:W0.cell? ⟨w.heap.size,2,none⟩=some (.slice ab body.length cb):=by rw [←c];simp
 have l0:w.heap.size<W0.heap.size:=by rw [←c];simp
 have m:=u W0 Y;clear hh z v t u;obtain⟨b3,d⟩: ∃b,decide ((body.length:Int)<=256)=b:=⟨_,rfl⟩;rw [d]at X;refine hd5 ?_ X m g Y c;clear X m g Y c;intro q s U R l;cases b3
 ·have af: ¬(body.length:Int)<=256:=xV d;clear d
  go_enter Tryz.func168,Tryz.ntmps168
  go_wp2_with fail;go_ret;exact⟨by rw [q.o];rfl,by rw [l.o];exact R.o.mt⟩
 ·have af:(body.length:Int)<=256:=yE d;clear d;cases bA
  all_goals go_enter Tryz.func168,Tryz.ntmps168
  all_goals go_wp2_with fail
  all_goals rw [l.o]
  all_goals refine s.o.mono ?_
  all_goals (rintro e W1 ⟨rfl,y⟩;have ao:=y.cell c2 l0;have an:=y.size;have kk:Keep (fun b=>b<w.heap.size) w W1:=R.o.mt.trans (y.mono fun b z _=>wC);clear y c2;have p:=zg kk;clear kk)
  ·go_wp2_with fail;go_ret;exact⟨by rw [q.o];rfl,p.o⟩
  ·go_wp2_with fail;refine(U.o _ p.o).mono ?_;rintro e W2 ⟨rfl,k2⟩;go_wp2_with fail;go_ret;exact⟨by rw [q.o];cases bL<;>rfl,p.o.trans (k2.mono fun b z _=>wC)⟩
def qh1 (n:Int):Bool:=decide (n<0) ||decide (2147483647<n)
def qii (s:qap):Bool:=qh1 s.rows ||s.dist.any qh1
def qb6 (l:List qap):Bool:=!l.any qii
theorem qyh (x:Int)(w:World):Calls prog 186 #[.int .i64 x] w fun e w'=>e=.returned (.bool (qh1 x))/\w'=w:=by
 by_cases h:x<0
 ·have c:qh1 x=true:=by unfold qh1;rw [zS h];rfl
  refine hd1 ?_ c;clear c;intro b
  go_enter Tryz.func186,Tryz.ntmps186
  go_wp2_with fail;go_ret;exact⟨by rw [b.o];rfl,rfl⟩
 ·have c:qh1 x=decide (2147483647<x):=by unfold qh1;rw [zM h];rfl
  refine hd1 ?_ c;clear c;intro b
  go_enter Tryz.func186,Tryz.ntmps186
  go_wp2_with fail;go_ret;exact⟨by rw [b.o];rfl,rfl⟩
theorem q2l (n B:Nat)(s:qap)(R:Value)(w:World)(q:qat n w R s.dist)(hn:n<=w.heap.size)(U:w.cell? ⟨B,0,none⟩=some (.func (.func 186) #[] #[])):
  Calls prog 188 #[ql7 s R,.pointer (some ⟨B,0,none⟩)] w fun e w'=>e=.returned (.bool (qii s))/\Keep (fun b=>b<w.heap.size) w w':=by
 obtain⟨pr,rows,d⟩:=s;unfold ql7;simp only at q⊢;have y:qii ⟨pr,rows,d⟩=(qh1 rows ||d.any qh1):=rfl;have u:=fun w=>qyh rows w;have v:=fun W (hK:Keep (fun b=>b<w.heap.size) w W)=>qw7 (gf:=186) (bs:= #[]) (lb:= #[]) (qdg Tryz.func186 wD rfl) qh1 n R d W (qjb q (hK.mono fun b _ h=>wC)) (by have:=hK.size;omega)
  (fun x _ Y _=>(qyh x Y).mono fun e w' ⟨e1,z⟩=>⟨e1,by subst z;exact Keep.refl _ _⟩)
 obtain⟨X,g⟩: ∃b,qh1 rows=b:=⟨_,rfl⟩;obtain⟨b2,l⟩: ∃b,d.any qh1=b:=⟨_,rfl⟩;rw [g,l]at y;simp only [g]at u;simp only [l]at v;obtain⟨a,c,rfl,-,-,-⟩:=id q;have l0:B<w.heap.size:=zQ w _ U;clear q g l;refine hd3 ?_ y u v;clear y u v;intro p r t;cases X
 all_goals go_enter Tryz.func188,Tryz.ntmps188
 all_goals go_wp2_with fail
 all_goals refine(r.o _).mono ?_
 all_goals (rintro e w1 ⟨rfl,m⟩;have m:=m.symm;subst m)
 all_goals go_wp2_with fail
 ·refine(t.o _ kAl).mono ?_;rintro e w1 ⟨rfl,z⟩;go_wp2_with fail;go_ret;exact⟨by rw [p.o];rfl,kAl.trans (z.mono fun b hb _=>by simp;omega)⟩
 ·go_ret;exact⟨by rw [p.o];rfl,kAl⟩
theorem qzz (n:Nat)(l:List qap)(v:Value)(w:World)(s:SizesIn n w v l)(hn:n<=w.heap.size):Calls prog 169 #[v] w fun e w'=>e=.returned (.bool (qb6 l))/\Keep (fun b=>b<w.heap.size) w w':=by
 have y:qb6 l=!l.any qii:=rfl;obtain⟨W0,d⟩:=ex (w.alloc (.cells #[.func (.func 186) #[] #[]] 159));have m:wG w W0:=by rw [←d];exact kAl
 have hz:=m.size;have R:W0.cell? ⟨w.heap.size,0,none⟩=some (.func (.func 186) #[] #[]):=by rw [←d];simp
 have U:w.heap.size<W0.heap.size:=by rw [←d];simp
 have t:=qu0 (gf:=188) (bs:= #[]) (lb:= #[.pointer (some ⟨w.heap.size,0,none⟩)]) (qdg Tryz.func188 wD rfl) qii n v l W0 (s.keep m.mt) wC
  (fun x _ z hK X u=>q2l n w.heap.size x X z u (by have:=hK.size;omega) (hK.cell R U))
 obtain⟨b2,g⟩: ∃b,l.any qii=b:=⟨_,rfl⟩;rw [g]at y;rw [g]at t;obtain⟨a,c,rfl,-,-,-⟩:=id s;clear s g;refine hd4 ?_ y t m d;clear y t m d;intro q p r h
 go_enter Tryz.func169,Tryz.ntmps169
 go_wp2_with fail;rw [h.o];refine p.o.mono ?_;rintro e w1 ⟨rfl,Y⟩;go_wp2_with fail;go_ret;exact⟨by rw [q.o];rfl,r.o.trans (Y.mono fun b hb _=>wC) |>.mt⟩
def qcu (K:List ByteArray)(t:TermD):Bool:=t.var&&!decide (t.text∈K)
def qff (L:LitD):List TermD:=if L.kind=3 then [L.left,L.right] else L.atom.args
def qc7 (K:List ByteArray)(L:LitD):Bool:=decide (L.kind=1) ||!(qff L).any (qcu K)
theorem q2m (w:World):(zeroValue 4).run prog w=.ok (.bool false) w:=wD
theorem qpo (M:Nat)(K:List ByteArray)(t:TermD)(w:World)(g:SetIn w M K):Calls prog 172 #[.map (some M),qc3 t] w fun e w'=>e=.returned (.bool (qcu K t))/\wG w w':=by
 obtain⟨v,s⟩:=t;unfold qc3;simp only;have d:qcu K ⟨v,s⟩=(v&&!decide (s∈K)):=rfl;have m:=fun w (h:SetIn w M K)=>qiw (P:=prog) (T:=237) (K:=9) (E:=4) Tryz.underlying237 Tryz.underlying9 q2m h s;obtain⟨b,l⟩:=ex (decide (s∈K));rw [l]at d;simp only [l]at m;have p:=m (w.alloc (.cells #[.bool v,.string s] 60)) (g.keep (Keep.alloc (fun _=>True) _ _) wH);clear m l;refine hd2 ?_ g d;clear g d;intro q c;cases v
 ·clear p
  go_enter Tryz.func172,Tryz.ntmps172
  go_wp2_with fail;go_ret;exact⟨by rw [c.o];rfl,kAl⟩
 ·go_enter Tryz.func172,Tryz.ntmps172
  go_wp2_with fail;go_ret;exact⟨by rw [c.o];rfl,kAl⟩
theorem qz0 (n:Nat)(L:LitD)(sa:Value)(w:World)(d:qai n w sa L.atom.args)(z:n<=w.heap.size):Calls prog 171 #[qew L sa] w fun e w'=> ∃sv,e=.returned sv/\qai w'.heap.size w' sv (qff L)/\wG w w':=by
 obtain⟨u,v,rfl,-,-,-⟩:=id d;obtain⟨k,⟨pr,args⟩,⟨p,lt⟩,⟨l,g⟩⟩:=L;unfold qew;simp only at d⊢;by_cases q:k=3
 ·subst q;have hT:qff ⟨3,⟨pr,args⟩,⟨p,lt⟩,⟨l,g⟩⟩= [⟨p,lt⟩,⟨l,g⟩]:=rfl;refine hd2 ?_ d hT;clear d hT;intro m b
  go_enter Tryz.func171,Tryz.ntmps171
  go_wp2_with fail;go_ret;refine⟨_,rfl,?_,kAl.trans kAl⟩;rw [b.o];have h:=qb (qh (w.alloc (.cells #[.int .i64 3,.string pr,.slice u args.length v,.bool p,.string lt,.bool l,.string g] 64)) (.cells #[.bool p,.string lt,.bool l,.string g] 60));simp only [zO]at h;have t:=h 0 _ rfl;have s:=h 1 _ rfl;have y:=h 2 _ rfl;have r:=h 3 _ rfl;refine⟨_,_,rfl,wE,by simp [maxLen],fun j x c=>⟨_,0,rfl,wE,?_⟩⟩
  match j,c with
  |0,c=>simp at c;subst c;exact⟨t,s⟩
  |1,c=>simp at c;subst c;exact⟨y,r⟩
 ·have hT:qff ⟨k,⟨pr,args⟩,⟨p,lt⟩,⟨l,g⟩⟩=args:=by unfold qff;rw [zF q]
  refine hd2 ?_ d hT;clear d hT;intro m b
  go_enter Tryz.func171,Tryz.ntmps171
  go_wp2_with fail;go_ret;refine⟨_,rfl,?_,kAl⟩;rw [b.o];exact qfn (qak m.o ((Keep.alloc (fun _=>True) _ _).mt)) (by simp;omega)
theorem qsp (n M:Nat)(K:List ByteArray)(L:LitD)(sa:Value)(w:World)(u:SetIn w M K)(R:qai n w sa L.atom.args)(hn:n<=w.heap.size):Calls prog 147 #[.map (some M),qew L sa] w fun e w'=>e=.returned (.bool (qc7 K L))/\Keep (fun b=>b<w.heap.size) w w':=by
 have hM:=u.lt;have l:=fun W (hK:wG w W)=>qz0 n L sa W (qak R hK.mt) (by have:=hK.size;omega);have q:=fun W (hK:Keep (fun b=>b<w.heap.size) w W) t (c:qai W.heap.size W t (qff L))=>qih (gf:=172) (bs:= #[.map (some M)]) (lb:= #[]) (qdg Tryz.func172 wD rfl) (qcu K) W.heap.size t (qff L) W c (zG _)
  (fun x _ W2 U=>(qpo M K x W2 (u.keep (hK.trans (U.mono fun b _ _=>by have:=hK.size;omega)) hM)).mono fun e w' ⟨e1,s⟩=>⟨e1,s.mt⟩)
 have g:qc7 K L=(decide (L.kind=1) ||!(qff L).any (qcu K)):=rfl;obtain⟨b2,d⟩: ∃b,(qff L).any (qcu K)=b:=⟨_,rfl⟩;rw [d]at g;simp only [d]at q;obtain⟨aa,ca,rfl,-,-,-⟩:=id R;obtain⟨k,⟨pr,args⟩,⟨lv,lt⟩,⟨rv,rt⟩⟩:=L;unfold qew at l⊢;simp only at l g⊢;clear d R u;by_cases v:k=1
 ·subst v;refine hd3 ?_ l q g;clear l q g;intro m p h
  go_enter Tryz.func147,Tryz.ntmps147
  go_wp2_with fail;go_ret;exact⟨by rw [h.o];rfl,kAl⟩
 ·rw [zM v,xJ]at g;refine hd3 ?_ l q g;clear l q g;intro m p h
  go_enter Tryz.func147,Tryz.ntmps147
  go_wp2_with fail;refine(m.o _ kAl).mono ?_;rintro e X ⟨t,rfl,c,s⟩;have y:wG w X:=kAl.trans s;have Y:=p.o X y.mt t c;obtain⟨a3,c3,rfl,-,-,-⟩:=id c;clear c s;refine hd2 ?_ Y y;clear Y y;intro z r;go_wp2_with fail;refine z.o.mono ?_;rintro e w2 ⟨rfl,k3⟩;go_wp2_with fail;go_ret;exact⟨by rw [h.o];show Ending.returned (.bool (k==1 ||!b2))=_;rw [y9.2 v];rfl,r.o.trans (k3.mono fun b hb _=>by have:=r.o.size;omega) |>.mt⟩
def qrr (x:ByteArray)(xs:List ByteArray):Int:=qch (fun y=>decide (x=y)) xs
theorem q7o (x:ByteArray)(xs:List ByteArray):decide (qrr x xs≥0)=decide (x∈xs):=by
 unfold qrr;rw [qzw];rw [yx,any_eq_true,zT];exact⟨fun⟨y,h1,h2⟩=>by rw [yE h2];exact h1,fun h=>⟨x,h,wE⟩⟩
theorem qsq {x:ByteArray}{xs:List ByteArray}(h:x∉xs):xs.any (fun y=>decide (x=y))=false:=by
 rw [xb];intro y b e;exact h (by rw [yE e];exact b)
theorem q2n (n:Nat)(X:Value)(xs:List ByteArray)(x:ByteArray)(w:World)(U:qac n w X xs)(hn:n<=w.heap.size):
  Calls prog 191 #[X,.string x] w fun e w'=>e=.returned (.int .i64 (qrr x xs))/\w'=w:=by
 obtain⟨aa,ca,rfl,ad,aj,s⟩:=id U;refine hd2 ?_ U s;clear U s;intro al t
 go_enter Tryz.func191,Tryz.ntmps191
 go_wp2_with fail
 go_loopw [8] (fun i wr=> ∃k:Nat,k<=xs.length/\i=.int .i64 (k:Int)/\wr=w/\x∉xs.take k) (fun i _=>xs.length-(intOf i).toNat)
 case atStart=>exact⟨0,wC,rfl,rfl,wE⟩
 case round=>
  obtain⟨k,hk,rfl,v,b⟩:=hrel;have v:=v.symm;subst v;by_cases R:k<xs.length
  ·obtain⟨y,q⟩: ∃x,xs[k]?=some x:=⟨_,zB R⟩;obtain⟨ba,oa,rfl,ag,f1⟩:=t.o k y q;unfold qgr at f1;simp only [yB]at f1;have ak:ba<w.heap.size:=by omega
   have Y:(k:Int)<xs.length:=wC
   have ah:(0:Int)<=k:=wC
   have c: ∀z,z∉xs.take k-> ¬z=y->z∉xs.take (k+1):=fun z h1 h2=>by
    rw [zh,q];simp only [Option.toList_some,zr,zm,not_or];exact⟨h1,h2⟩
   by_cases d:x=y
   ·have u:=qig d;have l:=(show qrr x xs=(k:Int) from qgf (fun y=>decide (x=y)) xs k y q (qsq b) (zS d));clear b q d c;refine hd1 ?_ l;clear l;intro m;go_wp2_with fail;go_ret;exact⟨by rw [m.o];try rfl,rfl⟩
   ·have u:=qgp d;have g:=c x b d;clear b q d c;refine hd1 ?_ g;clear g;intro h;go_wp2_with fail;go_roundw
    case rel=>exact⟨k+1,wC,by go_num,by trivial,h.o⟩
    case measure=>simp [intOf];omega
  ·have p:=(show qrr x xs= -1 from qge (fun y=>decide (x=y)) xs (qsq (by rwa [yz wC] at b)));clear b;refine hd1 ?_ p;clear p;intro r;go_wp2_with fail;go_ret;exact⟨by rw [r.o];try rfl,rfl⟩
theorem qu3 (n:Nat)(g:Value)(xs:List ByteArray)(x:ByteArray)(w:World)(c:qac n w g xs)(m:n<=w.heap.size):
  Calls prog 178 #[g,.string x] w fun e w'=>e=.returned (.bool (decide (x∈xs)))/\w'=w:=by
 have d:=fun w (c:qac n w g xs) m=>q2n n g xs x w c m;have d:=d w c m;have p:=q7o x xs;obtain⟨i,hi⟩:=ex (qrr x xs);rw [hi]at d p;obtain⟨r,s,rfl,-,-,-⟩:=id c;clear c;refine hd3 ?_ d p hi;clear d p hi;intro h l q
 go_enter Tryz.func178,Tryz.ntmps178
 go_wp2_with fail;refine h.o.mono ?_;rintro e t ⟨rfl,b⟩;have b:=b.symm;subst b;go_wp2_with fail;go_ret;exact⟨by rw [←l.o];rfl,rfl⟩
end Go.Proofs.P16
