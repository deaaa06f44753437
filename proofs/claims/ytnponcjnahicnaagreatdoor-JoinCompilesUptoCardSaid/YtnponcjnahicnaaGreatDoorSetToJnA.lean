/- Parts of the proof. -/
import Derived.Test.YtnponcjnahicnaaGreatDoorTermsToVars
import Derived.Deep.Onto
set_option linter.unusedSimpArgs false
set_option linter.unusedVariables false
set_option maxRecDepth 100000
set_option maxHeartbeats 2000000
open Go.Proofs.Tryz(prog)
open List(mem_map_of_mem nil_append nodup_nil)
namespace Go.Proofs.S12
open Go.RowKit Go.Ink
attribute [local go_sem] Oper.semAt_some
theorem qn5 (n:Int)(w:World):(Instr.makeMap 175 (some (.int .i64 n))).run prog w=.ok (.map (some w.heap.size)) (w.alloc (.map #[] 0)):=by
 simp [Instr.makeMap,yp,yl Tryz.underlying175,Result.andThen,asInt,asIntOf,run_newObj_alloc]
theorem q4p (n0:Nat)(v:Value)(ss:List ByteArray)(w:World)(z:qal n0 w v ss)(hn:n0<=w.heap.size):
  Calls prog 110 #[v] w fun e w'=>e=.returned (.map (some w.heap.size))/\Keep (fun k=>k<w.heap.size) w w'/\SetIn w' w.heap.size (qa2 ss):=by
 obtain⟨a,cap,rfl,aa,X,t⟩:=id z;have x:=fun w=>qn5 ss.length w;refine hd2 ?_ z t;clear z t;intro ab p
 go_enter Tryz.func110,Tryz.ntmps110
 go_wp2
 go_loopw [11] (fun i wr=> ∃k:Nat,k<=ss.length/\i=.int .i64 k/\Keep (fun j=>j<w.heap.size) w wr/\SetIn wr w.heap.size (qa2 (ss.take k))) (fun i _=>ss.length-(intOf i).toNat)
 case atStart=>exact⟨0,xz,rfl,kAl,qlx w⟩
 case round=>
  obtain⟨k,hk,rfl,hK,f⟩:=hrel;by_cases y:k<ss.length
  ·obtain⟨s,c⟩: ∃s,ss[k]?=some s:=⟨_,zB y⟩;obtain⟨b,off,rfl,hb,Y⟩:=p.o k s c;have hc:=hK.cell Y (show b<w.heap.size from xz);simp only [yA]at hc;obtain⟨W1,ae,d,u,R⟩:=qh2 (P:=prog) (T:=175) (K:=9) (E:=4) Tryz.underlying175 Tryz.underlying9 f s;rw [←qhl,show ss.take k++ [s]=ss.take (k+1) from by rw [zh,c];rfl]at d;have r:Keep (fun j=>j<w.heap.size) w W1:=hK.trans (u.mono fun b _ h=>xz);clear Y x u R;refine hd5 ?_ hK f d r c;clear hK f d r c;intro g m q l U;go_wp2;go_roundw
   case rel=>exact⟨k+1,xz,by go_num,l.o,q.o⟩
   case measure=>simp [intOf];omega
  ·obtain rfl:k=ss.length:=by omega
   rw [zi]at f;clear x;refine hd2 ?_ hK f;clear hK f;intro g m;go_wp2;go_ret;exact⟨rfl,g.o,m.o⟩
theorem qix:qb2 prog 25 79 7 96:=qcl (z:=.agg #[.int .i64 0,.string ⟨#[]⟩,.slice none 0 0,.bool false,.string ⟨#[]⟩,.bool false,.string ⟨#[]⟩]) wA wA rfl wC wC
theorem qu8 (l:List LitD)(k:Nat)(L:LitD)(h:l[k]?=some L):(l.take (k+1)).filter (fun L=>L.kind==1)=(l.take k).filter (fun L=>L.kind==1)++if L.kind==1 then [L] else []:=by
 rw [zh,h];simp [ye]
theorem q0j (n0:Nat)(v:Value)(body:List LitD)(w:World)(hs:qfj n0 w v body)(hn:n0<=w.heap.size)(hN:(body.flatMap LitD.uses).length<=1073741824):
  Calls prog 111 #[v] w fun e w'=> ∃v',e=.returned v'/\Keep (fun k=>k<w.heap.size) w w'/\w'.ownsRow w.heap.size 9 1 v' (qb0 body).length ((qb0 body).map .string):=by
 obtain⟨a,cap,rfl,aS,aR,aA⟩:=id hs;refine hd2 ?_ hs aA;clear hs aA;intro aU an;refine qbl Tryz.func111 rfl ?_;simp only [Tryz.ntmps111,qdm,Nat.reduceAdd,Nat.reduceSub];gi_wp2;gi_loopw [3,8] (fun v3 i wr=> ∃(k:Nat) (ps:List (LitD×Value)),k<=body.length/\i=.int .i64 k/\Keep (fun j=>j<w.heap.size) w wr/\wr.ownsRow w.heap.size 79 7 v3 ps.length (ps.flatMap fun p=>qu p.1 p.2)/\
   ps.map (·.1)=(body.take k).filter (fun L=>L.kind==1)/\ps.length<=k/\ ∀p,p∈ps->qad n0 w p.2 p.1.atom.args) (fun _ i _=>body.length-(intOf i).toNat)
 case atStart=>exact⟨0,[],xz,rfl,Keep.refl _ _,zj _ _ _ _,rfl,wB,wB⟩
 case round=>
  obtain⟨k,ps,hk,rfl,hK,hO,d,a1,q⟩:=hrel;have aP:=hK.size;by_cases aL:k<body.length
  ·obtain⟨L,hL⟩: ∃L,body[k]?=some L:=⟨_,zB aL⟩;obtain⟨b,off,rfl,hb,sa,ah,R⟩:=an.o k L hL;have g: ∀j v,(qu L sa)[j]?=some v->wr.cell? ⟨b,off+k*7+j,none⟩=some v:=fun j v h=>hK.cell (ah j v h) (show b<w.heap.size from xz);have m:=qu8 body k L hL;obtain⟨x,c,rfl,aK,aH,U⟩:=id R;have d0:=g 0 _ rfl;have d1:=g 1 _ rfl;have d2:=g 2 _ rfl;have d3:=g 3 _ rfl;have d4:=g 4 _ rfl;have d5:=g 5 _ rfl;have d6:=g 6 _ rfl;simp only [Nat.add_zero]at d0;by_cases z:L.kind=1
   ·have ai:(L.kind==1)=true:=by simp [z]
    rw [ai,zI rfl,←d]at m;have f:=qf hO (Keep.alloc (fun _=>True) wr (.cells (qu L (.slice x L.atom.args.length c)).toArray 79)) (fun _ _=>wE);obtain⟨v2,W2,al,aD,aC,g2,ay,aO,aJ,aZ⟩:=qdd qix 25 f (qu L (.slice x L.atom.args.length c)) rfl (by simp [qu,Value.oneCell']) xz (by simp;omega);subst aO;have s:Keep (fun j=>j<w.heap.size) w W2:=(hK.trans kAl).trans (aC.mono fun b hb h e=>by have:=(zE f b e.symm).1;omega);have Y: ∀p,p∈ps++ [(L,.slice x L.atom.args.length c)]->qad n0 w p.2 p.1.atom.args:=fun p hp=>by
     rcases zn.1 hp with h |h
     ·exact q p h
     ·simp only [zl]at h;subst h;exact R
    have aE:W2.ownsRow w.heap.size 79 7 (.slice (some ⟨g2,0,none⟩) (ps.length+1) ay) (ps++ [(L,Value.slice x L.atom.args.length c)]).length ((ps++ [(L,Value.slice x L.atom.args.length c)]).flatMap fun p=>qu p.1 p.2):=by
     simpa using aD
    have X:(ps++ [(L,Value.slice x L.atom.args.length c)]).map (·.1)=(body.take (k+1)).filter (fun L=>L.kind==1):=by rw [m];simp
    simp only [zO,qu]at al;clear g ah U hO f aD aC q d hL m aJ z R;refine hd6 ?_ hK al s Y aE X;clear hK al s Y aE X;intro ad aw r af au ae
    gi_wp2_with (gi_at_builtin;refine qby rfl _ _ _ rfl rfl rfl aw.o ?_)
    go_roundw
    case rel=>exact⟨k+1,ps++ [(L,.slice x L.atom.args.length c)],xz,by go_num,r.o,au.o,ae.o,by simp;omega,af.o⟩
    case measure=>simp [intOf];omega
   ·have ai:(L.kind==1)=false:=by simp [z]
    rw [ai,zF wB,←d,yO]at m;have s:Keep (fun j=>j<w.heap.size) w (wr.alloc (.cells (qu L (.slice x L.atom.args.length c)).toArray 79)):=hK.trans kAl;have f:=qf hO (Keep.alloc (fun _=>True) wr (.cells (qu L (.slice x L.atom.args.length c)).toArray 79)) (fun _ _=>wE);clear g ah U hO d hL z R;refine hd5 ?_ hK s q f m;clear hK s q f m;intro ad r av am ao;gi_wp2;go_roundw
    case rel=>exact⟨k+1,ps,xz,by go_num,r.o,am.o,ao.o.symm,xz,av.o⟩
    case measure=>simp [intOf];omega
  ·obtain rfl:k=body.length:=by omega
   rw [zi]at d;have y:=qr0 (n0:=n0) hO xz xz (fun p hp=>qq (q p hp) (hK.mono fun b _ h=>xz));rw [d]at y;obtain⟨a3,az,rfl,a0,aY,aI⟩:=id y;have t:RuleIn wr.heap.size wr (.slice none 0 0) (.slice a3 (body.filter fun L=>L.kind==1).length az) ⟨⟨⟨#[]⟩,[]⟩,body.filter fun L=>L.kind==1⟩:=⟨⟨none,0,rfl,wB,by simp [maxLen],wB⟩,y⟩;have aj:RuleD.names ⟨⟨⟨#[]⟩,[]⟩,body.filter fun L=>L.kind==1⟩=(body.filter fun L=>L.kind==1).flatMap LitD.uses:=by rw [qnn];simp [RuleD.headLit,LitD.uses,LitD.terms]
   have ab: ∀l:List LitD,((l.filter fun L=>L.kind==1).flatMap LitD.uses).length<=(l.flatMap LitD.uses).length:=by
    intro l
    induction l with
    |nil=>simp
    |cons L l ih=>
     by_cases h:(L.kind==1)=true
     ·simp only [ye,h,yg,yE,zR];omega
     ·simp only [ye,h,yx,yE,zR,zy];omega
   have aF:(RuleD.stands ⟨⟨⟨#[]⟩,[]⟩,body.filter fun L=>L.kind==1⟩).length<=1073741824:=by
    have:=yM List.length aj;simp only [RuleD.names,zL]at this;have:=ab body;omega
   clear q d y ab aI;refine hd5 ?_ hK hO t aj aF;clear hK hO t aj aF;intro ad aT u aq ax;gi_wp2;refine⟨wE,rfl,(zU.2 (q22 _ _ _ _ u.o ax.o)).mono ?_⟩;rintro e w' ⟨v',rfl,aB,ak⟩;rw [aq.o]at ak;refine hd2 ?_ aB ak;clear aB ak;intro ap ar;gi_wp2;go_ret;exact⟨_,rfl,ad.o.trans (ap.o.mono fun b _ h=>xz),ar.o.mono aP⟩
def looseOf (r:RuleD):Option ByteArray:=r.names.find? fun x=>decide (x∉qb0 r.body)
def ruleAns:Option ByteArray->Value
 |none=>.tuple #[.string ⟨#[]⟩,.bool true]
 |some x=>.tuple #[.string x,.bool false]
structure RuleSt (n1 Bs Bb Bm M:Nat)(w:World)(s:List ByteArray)(W:World):Prop where
 sbox: ∃u,W.heap[Bs]?=some (.cells #[.string u] 9 (0,0))
 bbox: ∃u,W.heap[Bb]?=some (.cells #[.bool u] 4 (0,0))
 mbox:W.heap[Bm]?=some (.cells #[.map (some M)] 175 (0,0))
 set:SetIn W M s
 old:Keep (fun k=>k<n1) w W
theorem RuleSt.keep {n1 Bs f Bm M:Nat}{w:World}{s:List ByteArray}{W g:World}{C:Nat->Prop}(h:RuleSt n1 Bs f Bm M w s W)(hK:Keep C W g)
  (i:C Bs) (j:C f) (k:C Bm) (l:C M) (p: ∀b,b<n1->C b):RuleSt n1 Bs f Bm M w s g:=by
 obtain⟨⟨u,a⟩,⟨q,b⟩,c,d,e⟩:=h;exact⟨⟨u,hK.heap a i⟩,⟨q,hK.heap b j⟩,hK.heap c k,d.keep hK l,e.trans (hK.mono fun b _ m=>p b m)⟩
theorem rule_any (r:RuleD)(sh sb:Value)(w:World)(hr:RuleIn w.heap.size w sh sb r)(hN:(r.body.flatMap LitD.uses).length<=1073741824):
  Calls prog 58 #[.agg #[.string r.head.pred,sh,sb]] w fun e w'=>e=.returned (ruleAns (looseOf r))/\Keep (fun k=>k<w.heap.size) w w':=by
 refine qfb Tryz.func58 rfl ?_;simp only [Tryz.ntmps58,qdm,Nat.reduceAdd,Nat.reduceSub];obtain⟨⟨ah,m,rfl,bw,bu,al⟩,⟨ab,j,rfl,bv,bt,ak⟩⟩:=id hr;have ar:= @run_makeMap prog;refine hd3 ?_ hr al ak;clear hr al ak;intro aJ bh bg;gi_wp2;refine⟨wE,rfl,quk (fun W0=>wD w W0/\W0.heap.size=w.heap.size+1+1+1/\W0.heap[w.heap.size]?=some (.cells (qce r (.slice ah r.head.args.length m) (.slice ab r.body.length j)).toArray 27 (0,0))/\
   W0.heap[w.heap.size+1]?=some (.cells #[.string ⟨#[]⟩] 9 (0,0))/\W0.heap[w.heap.size+1+1]?=some (.cells #[.bool false] 4 (0,0)))
   ⟨(kAl.trans kAl).trans kAl,wB,by simp only [qah,zO,xF];simp [qce],by simp only [qah,zO,xF];simp [qce],by simp only [qah,zO,xF];simp [qce]⟩ ?_⟩
 rintro W0 ⟨k0,s0,a1,a2,a3⟩;have au:=aJ.o.keep k0.mt;refine(zU.2 (q0j w.heap.size _ _ W0 au.2 xz hN)).mono ?_;rintro e W1 ⟨v1,rfl,k1,o1⟩;have ap:(qb0 r.body).length<=1073741824:=by
  refine zW (qlv _) (zW ?_ hN);have aV: ∀l:List LitD,((l.filter fun L=>L.kind==1).flatMap LitD.uses).length<=(l.flatMap LitD.uses).length:=by
   intro l
   induction l with
   |nil=>simp
   |cons L l ih=>
    by_cases h:(L.kind==1)=true
    ·simp only [ye,h,yg,yE,zR];omega
    ·simp only [ye,h,yx,yE,zR,zy];omega
  exact aV _
 have aW:=qcc o1 ap;have z1:=k1.size;clear o1;refine hd8 ?_ au k0 a1 a2 a3 k1 aW ap;clear au k0 a1 a2 a3 k1 aW ap;intro bI bj a7 a8 a9 ad aL bH;gi_wp2;refine⟨wE,rfl,(zU.2 (q4p _ _ _ W1 aL.o (zG _))).mono ?_⟩;rintro e q ⟨rfl,k2,hS⟩;have z2:=k2.size;have b1:=k2.heap (ad.o.heap a7.o xz) xz;have b2:=k2.heap (ad.o.heap a8.o xz) xz;have b3:=k2.heap (ad.o.heap a9.o xz) xz;have c0:=qb b1 0 _ rfl;have c1:=qb b1 1 _ rfl;have c2:=qb b1 2 _ rfl;simp only [zD,Nat.add_zero]at c0 c1 c2;have kk:Keep (fun k=>k<w.heap.size) w q:=(bj.o.mt.trans (ad.o.mono fun b _ h=>xz)).trans (k2.mono fun b _ h=>xz);refine hd6 ?_ b1 b2 b3 kk k2 hS;clear b1 b2 b3 kk k2 hS;intro bR ba bb aK bV aI;have cc:w.heap.size<q.heap.size:=xz
 gi_wp2;refine⟨wE,rfl,(zU.2 (qph r _ _ _ _ _ _ _)).mono ?_⟩;rintro e w' ⟨rfl,rfl⟩;gi_wp2;refine qnr (fun u=>wD q u/\u.heap.size=q.heap.size+1+1/\u.heap[q.heap.size]?=some (.cells #[.map (some W1.heap.size)] 175 (0,0))/\
   u.heap[q.heap.size+1]?=some (.cells (qce r (.slice ah r.head.args.length m) (.slice ab r.body.length j)).toArray 27 (0,0)))
  ⟨kAl.trans kAl,wB,by simp only [qah,zO,xF];simp [qce],by simp only [qah,zO,xF];simp [qce]⟩ ?_
 rintro u ⟨kW,sW,h1,h2⟩;have i:=aJ.o.keep (w':=u) (aK.o.trans kW.mt);have hM:=SetIn.lt aI.o;have p:RuleSt w.heap.size (w.heap.size+1) (w.heap.size+1+1) q.heap.size W1.heap.size w (qb0 r.body) u:=by
  refine⟨⟨_,kW.heap ba.o wE⟩,⟨_,kW.heap bb.o wE⟩,h1,?_,aK.o.trans kW.mt⟩;have:=aI.o.keep kW trivial
  rwa [qb0,qwd] at this
 refine qj1 (gf:=154) (lb:= #[.pointer (some ⟨q.heap.size+1,0,none⟩)]) rfl (qc0 Tryz.func154 wA rfl)
  (qmr w.heap.size (q.heap.size+1) u r _ _ i.1 i.2 xz xz) (fun _=>rfl) (fun _ h=>h.elim)
  ⟨h2,Keep.refl _ _⟩ (fun X Y hv hK=>qcf hv hK (fun k hk=>xz) xz)
  (fun k O X=>RuleSt w.heap.size (w.heap.size+1) (w.heap.size+1+1) q.heap.size W1.heap.size w (qb0 r.body) X/\ ∀x,x∈r.names.take k->x∈qb0 r.body)
  (fun c k O X=>qrn c/\Keep (fun k=>k<w.heap.size) w X/\ ∃x,looseOf r=some x/\X.heap[w.heap.size+1]?=some (.cells #[.string x] 9 (0,0))/\X.heap[w.heap.size+1+1]?=some (.cells #[.bool false] 4 (0,0))) ?hI ?hIx ?h0 ?round ?done ?stop
 case hI=>
  rintro k O X Y ⟨h,hh⟩ hK;exact⟨h.keep hK (.inl ⟨xz,fun h=>h⟩) (.inl ⟨xz,fun h=>h⟩) (.inl ⟨xz,fun h=>h⟩) (.inl ⟨xz,fun h=>h⟩) (fun b hb=>.inl ⟨xz,fun h=>h⟩),hh⟩
 case hIx=>
  rintro c k O X Y ⟨hc,hk,x,h1,h2,h3⟩ hK;exact⟨hc,hk.trans (hK.mono fun b _ hb=>.inl ⟨xz,fun h=>h⟩),x,h1,hK.heap h2 (.inl ⟨xz,fun h=>h⟩),hK.heap h3 (.inl ⟨xz,fun h=>h⟩)⟩
 case h0=>exact⟨p,wB⟩
 case round=>
  intro lr k O X b7 cb aO hk hI hV cd;obtain⟨s,hs⟩:=ex ((r.stands.getD k default).2);have aU:r.names[k]?=some s:=by simp [RuleD.names,←hs,List.getD,zB hk]
  rw [hs];clear h1 h2 kW ar c0 c1 c2 p;refine hd7 ?_ hI hs aU hV hk aO i;clear hI hs aU hV hk aO i;intro aa bU ai an bS bG ag;gi_wp2;refine⟨Keep.refl _ _,fun Y hY aQ aP=>?_⟩;have ae:=aa.o.1.keep hY xz xz xz xz (fun b hb=>xz);have af:=qcf an.o hY (fun b hb=>xz) xz;obtain⟨⟨us,p1⟩,⟨ub,p2⟩,p3,p4,p5⟩:=id ae;have d2:=qbb p3;have aS:=qh1 (P:=prog) (T:=175) (K:=9) (E:=4) Tryz.underlying175 Tryz.underlying9 (fun _=>wA) p4 s;have av:r.names.take (k+1)=r.names.take k++ [s]:=by rw [zh,ai.o];rfl
  by_cases t:s∈qb0 r.body
  ·have g:decide (s∈qb0 r.body)=true:=by simpa using t
   rw [g]at aS;have hf:qd3 u.heap.size X.heap.size (qfs w.heap.size (q.heap.size+1) u (qce r (.slice ah r.head.args.length m) (.slice ab r.body.length j)).toArray) O Y Y
     (fun O'=>RuleSt w.heap.size (w.heap.size+1) (w.heap.size+1+1) q.heap.size W1.heap.size w (qb0 r.body) Y/\ ∀x,x∈r.names.take (k+1)->x∈qb0 r.body):=
    ⟨O,fun _ h=>h,fun _ h=>.inl h,Keep.refl _ _,af,ae,fun x hx=>by
     rw [av]at hx;rcases zn.1 hx with h |h
     ·exact aa.o.2 x h
     ·simp at h;subst h;exact t⟩
   clear ae af p1 p2 p3 p4 p5 av t g hY aQ aP;refine hd1 ?_ hf;clear hf;intro ao;gi_wp2;exact ao.o
  ·have g:decide (s∈qb0 r.body)=false:=by simpa using t
   rw [g]at aS;have d:looseOf r=some s:=by
    exact q3i (fun x hx=>by simpa using aa.o.2 x hx) ai.o (by simpa using t)
   have d3:=qbb p1;have bp:=qg p1 0;have d4:=qbb p2;have bq:=qg p2 0;have k3:Keep (fun b=>b≠w.heap.size+1/\b≠w.heap.size+1+1) Y ((Y.setCell ⟨w.heap.size+1,0,none⟩ (.string s)).setCell ⟨w.heap.size+1+1,0,none⟩ (.bool false)):=(kSc).trans (kSc);have hf:qd3 u.heap.size X.heap.size (qfs w.heap.size (q.heap.size+1) u (qce r (.slice ah r.head.args.length m) (.slice ab r.body.length j)).toArray) O Y ((Y.setCell ⟨w.heap.size+1,0,none⟩ (.string s)).setCell ⟨w.heap.size+1+1,0,none⟩ (.bool false))
     (fun O'=>qrn .ret/\Keep (fun k=>k<w.heap.size) w ((Y.setCell ⟨w.heap.size+1,0,none⟩ (.string s)).setCell ⟨w.heap.size+1+1,0,none⟩ (.bool false))/\ ∃x,looseOf r=some x/\((Y.setCell ⟨w.heap.size+1,0,none⟩ (.string s)).setCell ⟨w.heap.size+1+1,0,none⟩ (.bool false)).heap[w.heap.size+1]?=some (.cells #[.string x] 9 (0,0))/\
      ((Y.setCell ⟨w.heap.size+1,0,none⟩ (.string s)).setCell ⟨w.heap.size+1+1,0,none⟩ (.bool false)).heap[w.heap.size+1+1]?=some (.cells #[.bool false] 4 (0,0))):=
    ⟨O,fun _ h=>h,fun _ h=>.inl h,k3.mono (fun b _ h=>xz),qcf af k3 (fun b hb=>xz) xz,rfl,p5.trans (k3.mono fun b _ h=>xz),s,d,
     (Keep.setCell (C:=fun b=>b≠w.heap.size+1+1) _ _ _ wB).heap (qgj _ p1) xz,qgj _ ((Keep.setCell (C:=fun b=>b≠w.heap.size+1) _ _ _ wB).heap p2 xz)⟩
   have br:w.heap.size+1<Y.heap.size:=qe p1;clear ae af p1 p2 p3 p4 p5 av t g hY aQ aP k3;refine hd2 ?_ hf d;clear hf d;intro ao f;gi_wp2;exact ao.o
 case done=>
  rintro D O W hD z R bz ⟨hI,U⟩ hV;have d:looseOf r=none:=by
   unfold looseOf;rw [ym];intro x hx;have:=U x (by rw [yw (by simp [RuleD.names])];exact hx)
   simpa using this
  obtain⟨⟨us,p1⟩,⟨ub,p2⟩,p3,p4,p5⟩:=id hI;have d3:=qbb p1;have bp:=qg p1 0;have d4:=qbb p2;have bq:=qg p2 0;have br:w.heap.size+1<W.heap.size:=qe p1;clear h1 h2 kW ar c0 c1 c2 p;refine qho ?_ hI p1 p2 p3 p4 p5 hV z R i U d;clear hI p1 p2 p3 p4 p5 hV z R i U d;intro aa bk bl bW b0 bm an aH y ag bf f;gi_wp2;have k3:Keep (fun b=>b≠w.heap.size+1/\b≠w.heap.size+1+1) W ((W.setCell ⟨w.heap.size+1,0,none⟩ (.string ⟨#[]⟩)).setCell ⟨w.heap.size+1+1,0,none⟩ (.bool true)):=(kSc).trans (kSc);refine qf4 [D] _ wB (fun E hE=>by simp at hE;subst hE;exact k3.heap y.o xz) (fun w' hK hs=>?_);have q1:=qbb (hK.heap ((Keep.setCell (C:=fun b=>b≠w.heap.size+1+1) _ _ _ wB).heap (qgj (.string ⟨#[]⟩) bk.o) xz) (by simp;omega));have q2:=qbb (hK.heap (qgj (.bool true) ((Keep.setCell (C:=fun b=>b≠w.heap.size+1) _ _ (.string ⟨#[]⟩) wB).heap bl.o xz)) (by simp;omega));refine qb7 (v:=.tuple #[.string ⟨#[]⟩,.bool true]) (by simp [results,Tryz.results58,go_sem,q1,q2]) ⟨by rw [f.o];rfl,?_⟩;exact(bm.o.trans (k3.mono fun b _ h=>xz)).trans (hK.mono fun b _ h=>by simp;omega)
 case stop=>
  rintro D c k O W hD z R bz hk ⟨aT,hK,x,hl,q1,q2⟩ hV;obtain rfl:c=.ret:=aT;clear h1 h2 kW ar c0 c1 c2 p;refine hd8 ?_ hK q1 q2 hV z R i hl;clear hK q1 q2 hV z R i hl;intro bc bn bo an aH y ag bi;gi_wp2;refine qf4 [D] _ wB (fun E hE=>by simp at hE;subst hE;exact y.o) (fun w' hK hs=>?_);have q1:=qbb (hK.heap bn.o (by simp;omega));have q2:=qbb (hK.heap bo.o (by simp;omega));refine qb7 (v:=.tuple #[.string x,.bool false]) (by simp [results,Tryz.results58,go_sem,q1,q2]) ⟨by rw [bi.o];rfl,?_⟩;exact bc.o.trans (hK.mono fun b _ h=>by simp;omega)
end Go.Proofs.S12
namespace Go.Ink
abbrev Asg:=ByteArray->Option ByteArray
def qco:Asg:=fun _=>none
def qaf (a:Asg)(t:TermD):Option ByteArray:=if t.var then a t.text else some t.text
def qcu (a:Asg)(t:TermD):ByteArray:=(qaf a t).getD ⟨#[]⟩
def qfh (a:Asg)(x v:ByteArray):Asg:=fun y=>if y=x then some v else a y
def qb6 (a:Asg):List TermD->List ByteArray->Option Asg
 | [],[]=>some a
 |t::ts,x::xs=>match qaf a t with
  |some y=>if y=x then qb6 a ts xs else none
  |none=>qb6 (qfh a t.text x) ts xs
 |_,_=>none
def ExtA (a b:Asg):Prop:= ∀x v,a x=some v->b x=some v
def qh9 (a b:Asg)(xs:List ByteArray):Prop:= ∀x,(∃v,b x=some v)↔(∃v,a x=some v)∨x∈xs
def qar (ts:List TermD):List ByteArray:=(ts.filter (·.var)).map (·.text)
theorem ExtA.refl (a:Asg):ExtA a a:=fun _ _ h=>h
theorem ExtA.trans {a b c:Asg}(h:ExtA a b)(g:ExtA b c):ExtA a c:=fun x v d=>g x v (h x v d)
theorem qjj {a b:Asg}(h:ExtA a b){t:TermD}{y:ByteArray}(c:qaf a t=some y):qaf b t=some y:=by
 unfold qaf at c⊢;cases d:t.var with
 |true=>rw [d] at c;simp only [yg] at c⊢;exact h _ _ c
 |false=>rw [d] at c;simpa using c
theorem qmn {a:Asg}{t:TermD}(h:qaf a t=none):t.var=true/\a t.text=none:=by
 unfold qaf at h;cases b:t.var with
 |true=>rw [b] at h;exact⟨rfl,by simpa using h⟩
 |false=>rw [b] at h;cases h
theorem qtr {a:Asg}{x v:ByteArray}(h:a x=none):ExtA a (qfh a x v):=fun y w b=>by
 unfold qfh;by_cases e:y=x
 ·subst e;rw [h] at b;cases b
 ·rw [zF e];exact b
theorem qpx (a:Asg)(x v:ByteArray):qfh a x v x=some v:=by unfold qfh;rw [zI rfl]
theorem qe7 {ts:List TermD}: ∀{a a':Asg} {xs:List ByteArray},qb6 a ts xs=some a'->ExtA a a'/\qh9 a a' (qar ts)/\ts.map (qaf a')=xs.map some:=by
 induction ts with
 |nil=>
  intro a a' xs h;cases xs with
  |nil=>cases h;exact⟨ExtA.refl _,fun x=>by simp [qar],rfl⟩
  |cons x xs=>cases h
 |cons t ts ih=>
  intro a a' xs h;cases xs with
  |nil=>cases h
  |cons x xs=>
   unfold qb6 at h;split at h
   ·rename_i y hy;split at h
    ·rename_i he;subst he;obtain⟨c,d,f⟩:=ih h;refine⟨c,fun z=>?_,?_⟩
     ·rw [d z];unfold qar;rw [ye];by_cases b:t.var=true
      ·rw [zI b,yW,zt];constructor
       ·rintro(h |h)
        ·exact .inl h
        ·exact .inr (.inr h)
       ·rintro(h |rfl |h)
        ·exact .inl h
        ·refine .inl ⟨y,?_⟩;unfold qaf at hy;rw [zI b]at hy;exact hy
        ·exact .inr h
      ·rw [zF b]
     ·rw [yW,yW,f,qjj c hy]
    ·cases h
   ·rename_i hy;obtain⟨b,g⟩:=qmn hy;obtain⟨c,d,f⟩:=ih h;refine⟨(qtr g).trans c,fun z=>?_,?_⟩
    ·rw [d z];unfold qar;rw [ye,zI b,yW,zt];unfold qfh;by_cases e:z=t.text
     ·subst e;simp
     ·rw [zF e];simp [e]
    ·rw [yW,yW,f];have:qaf a' t=some x:=by
      unfold qaf;rw [zI b];exact c _ _ (qpx _ _ _)
     rw [this]
theorem qts {ts:List TermD}: ∀{a b:Asg} {xs:List ByteArray},ExtA a b->ts.map (qaf b)=xs.map some-> ∃a',qb6 a ts xs=some a'/\ExtA a' b:=by
 induction ts with
 |nil=>
  intro a b xs c h;cases xs with
  |nil=>exact⟨a,rfl,c⟩
  |cons x xs=>cases h
 |cons t ts ih=>
  intro a b xs c h;cases xs with
  |nil=>cases h
  |cons x xs=>
   rw [yW,yW]at h;injection h with h1 h2
   unfold qb6;split
   ·rename_i y hy;have:=qjj c hy;rw [h1]at this;cases this;rw [zI rfl];exact ih c h2
   ·rename_i hy;obtain⟨f,g⟩:=qmn hy;refine ih ?_ h2;intro z v d;unfold qfh at d;by_cases e:z=t.text
    ·subst e;rw [zI rfl]at d;cases d;unfold qaf at h1;rw [zI f]at h1;exact h1
    ·rw [zF e]at d;exact c z v d
theorem q2w {a b c:Asg}{xs:List ByteArray}(f:ExtA b c)(g:qh9 a b xs)(h:qh9 a c xs):b=c:=by
 funext x
 cases d:b x with
 |some v=>exact(f x v d).symm
 |none=>
  cases i:c x with
  |none=>rfl
  |some v=>
   obtain⟨w,e⟩:=(g x).2 ((h x).1 ⟨v,i⟩);rw [d]at e;cases e
structure qa6 where
 pos:Nat->List (List ByteArray)
 neg:Nat->List (List ByteArray)
def qgc (J:qa6)(body:List LitD)(b:Asg)(i:Nat):Prop:=
 if (body.getD i default).kind=3 then qaf b (body.getD i default).left≠qaf b (body.getD i default).right
 else if (body.getD i default).kind=2 then (body.getD i default).atom.args.map (qcu b)∉J.neg i
 else∃t,t∈J.pos i/\(body.getD i default).atom.args.map (qaf b)=t.map some
def qbe (J:qa6)(body:List LitD):List Nat->Asg->List Asg
 | [],a=> [a]
 |i::is,a=>
  if (body.getD i default).kind=3 then (if qaf a (body.getD i default).left=qaf a (body.getD i default).right then [] else qbe J body is a)
  else if (body.getD i default).kind=2 then (if (body.getD i default).atom.args.map (qcu a)∈J.neg i then [] else qbe J body is a)
  else (J.pos i).flatMap fun t=>match qb6 a (body.getD i default).atom.args t with
   |some a'=>qbe J body is a'
   |none=> []
def qaa (body:List LitD)(is:List Nat):List ByteArray:=is.flatMap fun i=>if (body.getD i default).kind=3∨(body.getD i default).kind=2 then [] else qar (body.getD i default).atom.args
theorem qcx (body:List LitD)(i:Nat):qaa body [i]=if (body.getD i default).kind=3∨(body.getD i default).kind=2 then [] else qar (body.getD i default).atom.args:=by
 unfold qaa;rw [yE,xn,yO]
def qtt (a:Asg)(t:TermD):Prop:= ∃y,qaf a t=some y
def qgd (body:List LitD):List Nat->(ByteArray->Prop)->Prop
 | [],_=>True
 |i::is,K=>
  ((body.getD i default).kind=3-> ∀t,t=(body.getD i default).left∨t=(body.getD i default).right->t.var=true->K t.text)/\
  ((body.getD i default).kind=2-> ∀t,t∈(body.getD i default).atom.args->t.var=true->K t.text)/\
  qgd body is (fun x=>K x∨x∈qaa body [i])
theorem qge {a b:Asg}{t:TermD}(h:qtt a t)(d:ExtA a b):qaf b t=qaf a t:=by
 obtain⟨y,c⟩:=h;rw [c];exact qjj d c
theorem q0k {a b c:Asg}{xs d:List ByteArray}(h:qh9 a b xs)(g:qh9 b c d):qh9 a c (xs++d):=fun x=>by
 rw [g x,h x,zn,or_assoc]
theorem qkk {J:qa6}{body:List LitD}: ∀(is:List Nat) (a b:Asg),qgd body is (fun x=> ∃v,a x=some v)->
  (b∈qbe J body is a↔ExtA a b/\qh9 a b (qaa body is)/\ ∀i,i∈is->qgc J body b i):=by
 intro is
 induction is with
 |nil=>
  intro a b _;unfold qbe;rw [zl];constructor
  ·rintro rfl;exact⟨ExtA.refl _,fun x=>by simp [qaa],fun i h=>by cases h⟩
  ·rintro⟨h1,c,-⟩;exact(q2w (a:=a) (xs:= []) h1 (fun x=>wB) c).symm
 |cons i is ih=>
  intro a b hw;obtain⟨w3,w2,wr⟩:=hw;have R:qaa body (i::is)=qaa body [i]++qaa body is:=by unfold qaa;simp
  have m: ∀t:TermD,(t.var=true-> ∃v,a t.text=some v)->qtt a t:=fun t h=>by
   unfold qtt qaf;cases hv:t.var with
   |true=>simpa using h hv
   |false=>exact⟨_,rfl⟩
  unfold qbe;by_cases g:(body.getD i default).kind=3
  ·have f:qaa body [i]= []:=by rw [qcx,zI (.inl g)]
   have p:qgd body is (fun x=> ∃v,a x=some v):=by simpa [f] using wr
   rw [zI g,R,f,nil_append];have kl:=m _ (w3 g _ (.inl rfl));have kr:=m _ (w3 g _ (.inr rfl));split
   ·rename_i he;constructor
    ·intro h;cases h
    ·rintro⟨h1,-,c⟩;have:=c i (yI ..);unfold qgc at this;rw [zI g,qge kl h1,qge kr h1]at this;exact absurd he this
   ·rename_i he;rw [ih a b p];constructor
    ·rintro⟨h1,c,h4⟩;refine⟨h1,c,fun k d=>?_⟩;rcases zt.1 d with rfl |d
     ·unfold qgc;rw [zI g,qge kl h1,qge kr h1];exact he
     ·exact h4 k d
    ·rintro⟨h1,c,h4⟩;exact⟨h1,c,fun k d=>h4 k (yC _ d)⟩
  ·by_cases c:(body.getD i default).kind=2
   ·have f:qaa body [i]= []:=by rw [qcx,zI (.inr c)]
    have p:qgd body is (fun x=> ∃v,a x=some v):=by simpa [f] using wr
    rw [zF g,zI c,R,f,nil_append];have Y: ∀b:Asg,ExtA a b->(body.getD i default).atom.args.map (qcu b)=(body.getD i default).atom.args.map (qcu a):=fun b u=>by
     refine yz fun t r=>?_;unfold qcu;rw [qge (m t (w2 c t r)) u]
    split
    ·rename_i he;constructor
     ·intro h;cases h
     ·rintro⟨h1,-,h4⟩;have:=h4 i (yI ..);unfold qgc at this;rw [zF g,zI c,Y b h1]at this;exact absurd he this
    ·rename_i he;rw [ih a b p];constructor
     ·rintro⟨h1,h5,h4⟩;refine⟨h1,h5,fun k d=>?_⟩;rcases zt.1 d with rfl |d
      ·unfold qgc;rw [zF g,zI c,Y b h1];exact he
      ·exact h4 k d
     ·rintro⟨h1,h5,h4⟩;exact⟨h1,h5,fun k d=>h4 k (yC _ d)⟩
   ·have q:qaa body [i]=qar (body.getD i default).atom.args:=by rw [qcx,zF (fun h=>h.elim g c)]
    rw [zF g,zF c,R,q,xC];rw [q]at wr;have j: ∀a' t,qb6 a (body.getD i default).atom.args t=some a'->qgd body is (fun x=> ∃v,a' x=some v):=fun a' t l=>by
     have:=(qe7 l).2.1;have e:(fun x=> ∃v,a' x=some v)=fun x=>(∃v,a x=some v)∨x∈qar (body.getD i default).atom.args:=xy fun x=>propext (this x);rw [e];exact wr
    constructor
    ·rintro⟨t,r,hb⟩;split at hb
     ·rename_i a' l;obtain⟨f1,s,U⟩:=qe7 l;obtain⟨X,g2,g3⟩:=(ih a' b (j a' t l)).1 hb;refine⟨f1.trans X,q0k s g2,fun k d=>?_⟩;rcases zt.1 d with rfl |d
      ·unfold qgc;rw [zF g,zF c];refine⟨t,r,?_⟩;rw [←U];refine yz fun x hx=>?_;have:qaf a' x∈(body.getD k default).atom.args.map (qaf a'):=mem_map_of_mem hx;rw [U]at this;obtain⟨y,-,hy⟩:=yK.1 this;exact qge ⟨y,hy.symm⟩ X
      ·exact g3 k d
     ·cases hb
    ·rintro⟨h1,h4,h5⟩;have z:=h5 i (yI ..);unfold qgc at z;rw [zF g,zF c]at z;obtain⟨t,r,hm⟩:=z;obtain⟨a',l,u⟩:=qts h1 hm;refine⟨t,r,?_⟩;rw [l];refine(ih a' b (j a' t l)).2 ⟨u,fun x=>?_,fun k d=>h5 k (yC _ d)⟩;have s:=(qe7 l).2.1;rw [h4 x,s x,zn,or_assoc]
theorem qqz {J:qa6}{body:List LitD}(X: ∀i,(J.pos i).Nodup): ∀(is:List Nat) (a:Asg),qgd body is (fun x=> ∃v,a x=some v)->(qbe J body is a).Nodup:=by
 intro is
 induction is with
 |nil=>intro a _;unfold qbe;simp
 |cons i is ih=>
  intro a Y;obtain⟨w3,w2,wr⟩:=Y;unfold qbe;by_cases j:(body.getD i default).kind=3
  ·have d:qaa body [i]= []:=by rw [qcx,zI (.inl j)]
   rw [zI j];split
   ·exact nodup_nil
   ·exact ih a (by simpa [d] using wr)
  ·by_cases p:(body.getD i default).kind=2
   ·have d:qaa body [i]= []:=by rw [qcx,zI (.inr p)]
    rw [zF j,zI p];split
    ·exact nodup_nil
    ·exact ih a (by simpa [d] using wr)
   ·have r:qaa body [i]=qar (body.getD i default).atom.args:=by rw [qcx,zF (fun h=>h.elim j p)]
    rw [zF j,zF p];rw [r]at wr;have f: ∀a' t,qb6 a (body.getD i default).atom.args t=some a'->qgd body is (fun x=> ∃v,a' x=some v):=fun a' t g=>by
     have:=(qe7 g).2.1;have e:(fun x=> ∃v,a' x=some v)=fun x=>(∃v,a x=some v)∨x∈qar (body.getD i default).atom.args:=xy fun x=>propext (this x);rw [e];exact wr
    have key: ∀t b,b∈(match qb6 a (body.getD i default).atom.args t with |some a'=>qbe J body is a' |none=> [])->(body.getD i default).atom.args.map (qaf b)=t.map some:=fun t b k=>by
     split at k
     ·rename_i a' g;obtain⟨f1,f2,z⟩:=qe7 g;obtain⟨U,-,-⟩:=(qkk is a' b (f a' t g)).1 k;rw [←z];refine yz fun x hx=>?_;have:qaf a' x∈(body.getD i default).atom.args.map (qaf a'):=mem_map_of_mem hx;rw [z]at this;obtain⟨y,-,hy⟩:=yK.1 this;exact qge ⟨y,hy.symm⟩ U
     ·cases k
    have m:=X i
    revert m
    generalize J.pos i=l;intro m
    induction l with
    |nil=>simp
    |cons t l ihl=>
     rw [xR]at m;rw [yE,xV];refine⟨?_,ihl m.2,?_⟩
     ·split
      ·rename_i a' g;exact ih a' (f a' t g)
      ·exact nodup_nil
     ·intro b k c q e;subst e;obtain⟨t2,s,q⟩:=xC.1 q;have R:=key t b k;have u:=key t2 b q;rw [R]at u;have:t=t2:=(List.map_inj_right (fun x y h=>by cases h;rfl)).1 u;subst this;exact m.1 s
end Go.Ink
