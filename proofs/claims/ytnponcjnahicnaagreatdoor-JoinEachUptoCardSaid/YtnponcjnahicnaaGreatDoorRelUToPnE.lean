/- Parts of the proof. -/
import Derived.Test.YtnponcjnahicnaaGreatDoorRelPToRelT
set_option linter.unusedSimpArgs false
set_option linter.unusedVariables false
set_option maxRecDepth 100000
set_option maxHeartbeats 4000000
open Go.Proofs.Tryz(prog)
open List(all_append all_cons any_append any_cons append_toArray cons_append getElem?_cons_succ getElem?_cons_zero length_cons length_nil nil_append push_toArray size_toArray take_succ_cons)
namespace Go.Proofs.R4
open Go.RowKit Go.Ink
attribute [local go_sem] Oper.semAt_some
theorem q8l {F:Fence}{n:Nat}{P:Program}{w w':World}{ops:Array Oper}{rest:List Oper}{o:Oper}{a:Act}{Q:Exit->Act->World->Prop}{v u v':Value}
  (e:Region.wanted o (yielded ops a.tmps)=true) (s x:Operand) (t:TypeId) (b:o.op=Op.call {callee:=Callee.builtin Builtin.append,args:= #[s,x],argTypes:= #[t,t]}) (hs:a.eval s=v) (hx:a.eval x=u)
  (hrun:(Builtin.append_ #[t,t] o.type #[v,u]).run P w=.ok v' w') (hK:wpListIn F n P ops Q rest (a.put o.dst v') w'):wpListIn F n P ops Q (o::rest) a w:=by
 unfold wpListIn;rw [zI e];unfold Oper.wpIn;refine⟨?_,?_⟩
 ·simp [Oper.about,b,resolve,Target.leads,Sem.run_pure]
 ·rw [Oper.semAt_plain F _ _ (by rw [b];intro c d;cases d)];simp [execOp,b,resolve,invoke,builtin,hs,hx,hrun,Result.andThen];exact hK
theorem q0r {n:Nat}{P:Program}{w:World}{ops:Array Oper}{rest:List Oper}{o:Oper}{a:Act}{Q:Exit->Act->World->Prop}
  (b:Region.wanted o (yielded ops a.tmps)=false) (h:wpListIn Fence.wide n P ops Q rest (a.put o.dst undef) w):wpListIn Fence.wide n P ops Q (o::rest) a w:=by
 unfold wpListIn;rw [zF (by rw [b];simp)];exact⟨fun _ _=>wF,h⟩
structure PlacesAt (s:qe0)(n:Nat)(cols key:List Int)(lo hi:Int)(pl:List Nat)(v:Value):Prop where
 told:qel n s.ts cols key lo hi=pl.filter (qe1 lo hi)
 sort:pl.Pairwise (· < ·)
 few:pl.length<=s.ts.length
 good: ∀(j i:Nat),pl[j]?=some i->qdz n cols=true/\i<s.ts.length/\(idx s.ts cols (qa6 key))[j]?=some i/\ ∃b c p,v=.slice (some ⟨b,0,none⟩) pl.length c/\s.tag b=some (.ent (qax cols) (qa6 key) p)/\pl.length<=p
theorem PlacesAt.read {B n P KM:Nat}{U s:qe0}{w:World}{d key:List Int}{lo hi:Int}{pl:List Nat}{v:Value}{m:Nat}(h:PlacesAt U n d key lo hi pl v)(hb:RelBd U m s)(hinv:RelInv B n P KM s w){j i:Nat}(hj:pl[j]?=some i):
  ∃b c t,v=.slice (some ⟨b,0,none⟩) pl.length c/\w.cell? ⟨b,j,none⟩=some (.int .i64 (i:Int))/\U.ts[i]?=some t/\s.ts[i]?=some t:=by
 obtain⟨y,x,u,b,c,p,hv,z,hp⟩:=h.good j i hj;obtain⟨us,R⟩:=hb.more;have ak:=(zA.1 hj).1;obtain⟨t,ht⟩: ∃t,U.ts[i]?=some t:=⟨_,zB x⟩;refine⟨b,c,t,hv,?_,ht,by rw [R,yR x];exact ht⟩;have g: ∃q,s.tag b=some (.ent (qax d) (qa6 key) q)/\p<=q:=by
  rcases hb.le b _ z with l |⟨c1,k1,p1,q1,e1,l,Y⟩
  ·exact⟨p,l,zG _⟩
  ·cases e1;exact⟨q1,l,Y⟩
 obtain⟨q,hq,am⟩:=g;obtain⟨L,hL⟩:=hinv.own.ents b (qax d) (by rw [hq];rfl);obtain⟨l',vl,M,mm,e⟩:=hinv.own.looks _ _ hL;have hl:l'=d:=qsv e.row y hinv.own.n16 e.mask;subst hl;obtain⟨i',l,Y⟩:=e.blocks b _ q hq j wA;have h3:=q6o U.ts us l' (qa6 key) u;rw [R,h3]at l;cases l;exact Y
theorem qtf (B n P KM n0 n1 bR bL bK bT bF:Nat)(vl vk:Value)(lo hi:Int)(p key:List Int)(cr:okT key)(cl:p.length<=1073741824)(cp:key.length<=1073741824):
  qtr prog 178 #[.pointer (some ⟨bR,0,none⟩),.pointer (some ⟨bL,0,none⟩),.pointer (some ⟨bK,0,none⟩),.pointer (some ⟨bT,0,none⟩),.pointer (some ⟨bF,0,none⟩)] (qfd B n P KM) (fun s=>(qel n s.ts p key lo hi).length)
  (fun s0 k s m X args=> ∃i t,(qel n s0.ts p key lo hi)[k]?=some i/\s0.ts[i]?=some t/\q95 i t m X args) (MatchV n0 n1 bR bL bK bT bF B vl vk lo hi p key) (fun b=>n0<=b/\b<n1):=by
 intro l J Jx W s0 hl hinv hV hU hJ br aj h0;refine qbr Tryz.func178 rfl ?_;simp only [Tryz.ntmps178,size_toArray,length_cons,length_nil,Nat.reduceAdd,Nat.reduceSub,Array.replicate_succ,Array.replicate_zero,push_toArray,append_toArray,nil_append,cons_append];have cR:=hV.r.cell;have cL:=hV.l.cell;have cK:=hV.k.cell;have lR:=hV.r.lt;have lL:=hV.l.lt;have lK:=hV.k.lt;have bD:qqz s0.tag vk:=fun a n' c' e=>hU _ ⟨(zE hV.ok _ (by rw [e];rfl)).1,hV.bk _ (by rw [e];rfl)⟩;have aW:=hinv.few;have bz:=q3s hinv.own wA W.heap.size vl vk p key (qfk hV.ol cl) (qfk hV.ok cp) (zG _) cr bD;clear bD;obtain⟨a1,c1,rfl⟩:=qi hV.ol;obtain⟨a2,c2,rfl⟩:=qi hV.ok;refine hd8 ?_ hinv hV hU hJ br aj h0 bz;clear hinv hV hU hJ br aj h0 bz;intro cd cc ca b9 cB ao b8 bh;gi_wp2;refine⟨wF,rfl,(zU.2 bh.o).mono ?_⟩;rintro e W1 ⟨v,b0,cx,rfl,k1,aL,aY,ax,aC,hF,aZ⟩;obtain⟨s1,aB⟩: ∃s1:qe0,s1=⟨b0,s0.ts,s0.vD,cx⟩:=⟨_,rfl⟩;have z:RelInv B n P KM s1 W1:=by rw [aB];exact⟨aL,aW⟩
 have aw:qtt B n P KM s0 W s1 W1:=by rw [aB] at z⊢;exact⟨k1,rfl,aY,ax,aC,z⟩
 have bp:J 0 s1 W1:=b9.o 0 s0 W s1 W1 b8.o aw;have bu:=cc.o.keep k1 (fun b h1 h2=>ca.o b ⟨h1,h2⟩);have R:s1.ts=s0.ts:=by rw [aB]
 have cu:=k1.size;obtain⟨pl,av,cv,hv,aN⟩: ∃(pl:List Nat) (av:Option Addr) (cv:Nat),v=.slice av pl.length cv/\PlacesAt s1 n p key lo hi pl v:=by
  cases hg:(qdz n p&&decide (key.length=p.length)) with
  |false=>
   refine⟨[],none,0,aZ hg,⟨by rw [q3v hg];rfl,List.Pairwise.nil,ya _,fun j i hj=>by simp at hj⟩⟩
  |true=>
   simp only [zV,zT]at hg;obtain⟨⟨ho,hb⟩,L,hL⟩:=hF hg.1 hg.2;obtain⟨av,cv,rfl⟩:=qi ho;refine⟨idx s0.ts p (qa6 key),av,cv,rfl,⟨?_,q0q _ _ _,by rw [R];exact qyk _ _ _,fun j i hj=>⟨hg.1,by rw [R];exact q9t hj,by rw [R];exact hj,?_⟩⟩⟩
   ·rw [R];exact q3u aL.n16 aL.len hg.1 hg.2
   ·rcases ho.2 with ⟨e1,e2⟩ |⟨g,cap,cur,e1,e2,e3,e4,e5,_⟩
    ·have:=(zA.1 hj).1;omega
    ·injection e1 with q1 q2 q3
     subst q1;exact⟨g,cv,_,rfl,by rw [aB];exact hb g rfl,zG _⟩
 subst hv;have bs:(qel n s0.ts p key lo hi).length=(pl.filter (qe1 lo hi)).length:=by rw [←R,aN.told]
 have cM:pl.length<=67108864:=zW aN.few z.few;clear aB aL aY ax aC hF aZ k1 cR cL cK lR lL lK aW;refine hd7 ?_ z aw bp bu R aN bs;clear z aw bp bu R aN bs;intro aH ce bc bg ap an am;gi_wp2;gi_loopw [20] (fun i wr=> ∃(j:Nat) (s:qe0),i=.int .i64 (j:Int)/\j<=pl.length/\J (qey lo hi pl j) s wr/\RelInv B n P KM s wr/\MatchV n0 n1 bR bL bK bT bF B (.slice a1 p.length c1) (.slice a2 key.length c2) lo hi p key wr/\RelBd s1 W.heap.size s/\W.heap.size<=wr.heap.size) (fun i _=>pl.length-(intOf i).toNat)
 case atStart=>exact⟨0,s1,rfl,ya _,by unfold qey;exact bc.o,aH.o,bg.o,RelBd.refl _ _,cu⟩
 case round=>
  obtain⟨j,s,rfl,hj,ad,c,q,U,bb⟩:=hrel;by_cases cq:j<pl.length
  ·obtain⟨i,ae⟩: ∃i,pl[j]?=some i:=⟨_,zB cq⟩;obtain⟨b,cb,t,ct,a9,aO,aD⟩:=an.o.read U c ae;injection ct with hav hnn hcc
   clear hnn hcc;subst hav;have c3:b<wr.heap.size:=zQ _ _ a9;have cJ:(j:Int)<pl.length:=wA
   have bG:(0:Int)<=j:=wA
   have c7:(j:Int)+1<=67108864:=wA
   have cT:=q.t.cell;have lT:=q.t.lt;by_cases co:hi<=(i:Int)
   ·have aV:=q6q (lo:=lo) (an.o.sort) ae co;have aq:J (pl.filter (qe1 lo hi)).length s wr:=by rw [←aV];exact ad
    clear aV ad aO aD ae;refine hd4 ?_ aq c q U;clear aq c q U;intro al d y ab;gi_wp2;refine yA (yt rfl _ _ _) rfl ?_;exact⟨⟨_,rfl⟩,bb,s,d.o,y.o,.inl (by rw [am.o];exact al.o)⟩
   ·have cF:=q.f.cell;have lF:=q.f.lt;by_cases ba:lo<=(i:Int)
    ·have bS:=q6p ae (lo:=lo) (hi:=hi) (by unfold qe1;rw [zS ba,zS wA];rfl);obtain⟨az,ay⟩:=bS;have bI:qey lo hi pl j<(qel n s0.ts p key lo hi).length:=by rw [am.o];exact(zA.1 az).1
     have aA:(qel n s0.ts p key lo hi)[qey lo hi pl j]?=some i:=by rw [←ap.o,an.o.told];exact az
     have a0:s0.ts[i]?=some t:=by rw [←ap.o];exact aO
     have cm:=c.few;have c6:i<s.ts.length:=(zA.1 aD).1;have c5:(i:Int)<=67108864:=wA
     have c4:(0:Int)<=i:=wA
     have c0:=qe c.own.box;obtain⟨W2,bw⟩:=ex (wr.alloc (.cells #[] 3));have k1:wE wr W2:=by rw [←bw];exact kAl
     have bN:W2.ownsRow wr.heap.size 3 1 (.slice (some ⟨wr.heap.size,0,none⟩) 0 0) 0 []:=by rw [←bw];exact xe wr #[] 0 (zG _) (by simp [maxLen]) rfl
     have af:=c.keep k1.mt;have ci:=(q.keep k1 (fun _ _ _=>wF)).r.cell;have dg:bR<W2.heap.size:=zQ _ _ ci;have a3:=qst af.own wA i t aD;clear ae aO aD az;refine qhw ?_ ad c q U k1 bN af a3 bI aA a0 ay;clear ad c q U k1 bN af a3 bI aA a0 ay;intro bd d y ab bl bi b4 a6 aS aJ a5 aI;gi_wp2;refine⟨wF,rfl,(zU.2 a6.o).mono ?_⟩;rintro e W3 ⟨vt,rfl,k3,z3,bQ,cs⟩;have bO:=qf bi.o k3 (fun _ _=>wF);have aE:=qd8 bQ (m:=W2.heap.size) k3.mt (zG _);obtain⟨bm,bn,rfl,bJ,cI,bx⟩:=id aE;have ar:=qgj (sz:=1) ic (fun _=>rfl) wA (E:=qf6) (fun b o x h j u hj=>by
      have bG:j=0:=by have:=(zA.1 hj).1;simp [ic] at this;exact this
      subst bG;simp [ic]at hj;subst hj;exact h) aE rfl
     have bU:wr.heap.size<=W3.heap.size:=by have:=bl.o.size;omega
     obtain⟨va,W4,bP,aM,cn,bW⟩:=qhx (P:=prog) qnf 125 bO bm t.length bn (t.flatMap ic) (qa4 _ 1 (fun _=>rfl) _) ar.1 ar.2 (qjy _ (by simp [ic,Value.oneCell']) _) wA bU;rw [qne,nil_append,zD]at aM;have ak:wE wr W4:=(bl.o.mt.trans (k3.mt.trans (bW.mono (C':=fun b=>b<wr.heap.size) fun b _ h e=>by have:=(zE aM b e).1;omega))).mono (fun b hb _=>hb);have ag:=d.o.keep ak.mt;have a8:=y.o.keep ak (fun _ _ _=>wF);obtain⟨fn,tmps,assign,body,hy,hR⟩:=ao.o (qey lo hi pl j) s wr W4 #[.int .i64 (i:Int),va] aS.o bd.o (q0p d.o ak) ag a8 bb ⟨i,t,aJ.o,a5.o,va,rfl,aM,bJ⟩;have bt:=zg hR;clear hR bQ aE bx ar bO cn bW cs aM;have dc:=zg k3;have b7:=zg ag;have cH:=zg a8;have cw:W.heap.size<=W4.heap.size:=by have:=ak.size;omega
     have cN:=zg ak;clear k3 ag a8 ak;refine hd1 ?_ bP;clear bP;intro bj
     gi_wp2_with (gi_at_builtin;refine q8l (v:=.slice (some ⟨wr.heap.size,0,none⟩) 0 0) (u:=.slice bm t.length bn) (v':=va) (w':=W4) (by rfl) (.tmp 33) (.tmp 36) 125 rfl rfl rfl bj.o ?_)
     refine⟨rfl,bt.out.mono ?_⟩;rintro e Y ⟨s',au,bv,aU,db,(⟨rfl,a7⟩ |⟨rfl,a7⟩)⟩
     all_goals
      have aT:RelBd s1 W.heap.size s':=ab.o.trans aU cw;clear aU bt hy;refine hd4 ?_ au bv a7 aT;clear au bv a7 aT;intro ah aR aQ a4;gi_wp2
     ·go_roundw
      case rel=>exact⟨j+1,s',by go_num,wA,by rw [aI.o];exact aQ.o,ah.o,aR.o,a4.o,wA⟩
      case measure=>simp [intOf];omega
     ·refine yA (yt rfl _ _ _) rfl ?_;exact⟨⟨_,rfl⟩,wA,s',ah.o,aR.o,.inr ⟨_,aS.o,aQ.o⟩⟩
    ·have bM:=q8k ae (lo:=lo) (hi:=hi) (by unfold qe1;rw [zM ba];rfl);have bq:J (qey lo hi pl (j+1)) s wr:=by rw [bM];exact ad
     have c8: ¬((i:Int)≥lo):=ba;clear bM ad ae aO aD;refine hd4 ?_ bq c q U;clear bq c q U;intro bf d y ab;gi_wp2;refine⟨wF,?_⟩;rename_i aK;refine aK _ _ ?_;clear aK
     try go_frame
     refine q0r (by rfl) ?_
     try go_frame
     refine q0r (by rfl) ?_
     try go_frame
     refine q0r (by rfl) ?_
     try go_frame
     gi_wp2;go_roundw
     case rel=>exact⟨j+1,s,by go_num,wA,bf.o,d.o,y.o,ab.o,wA⟩
     case measure=>simp [intOf];omega
  ·have bH:j=pl.length:=by omega
   have aq:J (pl.filter (qe1 lo hi)).length s wr:=by rw [←q6r lo hi pl,←bH];exact ad
   clear ad bH;refine hd4 ?_ aq c q U;clear aq c q U;intro al d y ab;gi_wp2
   go_end0
   exact⟨⟨_,rfl⟩,bb,s,d.o,y.o,.inl (by rw [am.o];exact al.o)⟩
structure RelSame (s0:qe0)(w:World)(s:qe0)(X:World):Prop where
 keep:Keep (fun b=>s0.tag b=none/\b<w.heap.size) w X
 same:s.ts=s0.ts
 le:TagLe s0.tag s.tag
 new:TagNew s0.tag s.tag w
 sub: ∀p,p∈s0.lm->p∈s.lm
theorem RelSame.refl (s:qe0)(w:World):RelSame s w s w:=⟨Keep.refl _ _,rfl,TagLe.refl _,TagNew.refl _ _,fun _ h=>h⟩
theorem RelSame.it {B n P K:Nat}{c s e:qe0}{w X Y:World}(h:RelSame c w s X)(g:qtt B n P K s X e Y):RelSame c w e Y:=by
 have m: ∀b,c.tag b=none->b<w.heap.size->s.tag b=none:=fun b l t=>by
  cases hT:s.tag b with
  |none=>rfl
  |some T=>
   rcases h.new b T hT with ⟨T',h3⟩ |h3
   ·rw [l]at h3;cases h3
   ·omega
 exact⟨h.keep.trans (g.keep.mono fun b _ d=>m b d.1 d.2),g.same.trans h.same,h.le.trans g.le,h.new.trans g.new h.keep.size,fun p q=>g.sub p (h.sub p q)⟩
theorem RelSame.keepOn {c s:qe0}{w X Y:World}{C:Nat->Prop}(h:RelSame c w s X)(hK:Keep C X Y)(e: ∀b,b<w.heap.size->c.tag b=none->C b):RelSame c w s Y:=
 ⟨h.keep.trans (hK.mono fun b _ d=>e b d.2 d.1),h.same,h.le,h.new,h.sub⟩
theorem qxf {n:Nat}{ts:List (List Int)}{t:List Int}(h: ∀t∈ts,qdi n t=true)(b:qdi n t=false):qe7 ts t=none:=by
 unfold qe7;refine yn.2 fun i _ hi=>?_;have:=h t (zH (yE hi));rw [b]at this;cases this
theorem qvh {tag:qb9}{w:World}{B n:Nat}{ts:List (List Int)}{vD:Value}{P K:Nat}{lm:List (List Bool×Nat)}(h:qci tag w B n ts vD P K lm)(m:Nat)(v:Value)(t:List Int)(hs:qay m w v t)(hm:m<=w.heap.size)(az:okT t):
  Calls prog 140 #[.pointer (some ⟨B,0,none⟩),v] w fun e w'=>e=.returned (qld (qe7 ts t))/\Keep (fun k=>k<w.heap.size) w w':=by
 obtain⟨a,c,rfl,ay,aL,ax⟩:=id hs;have hB:=qe h.box;have aI:=h.n16;refine hd4 ?_ h hs ax az;clear h hs ax az;intro Xh aq aF ao
 go_enter Tryz.func140,Tryz.ntmps140
 go_wp2_with fail;refine(qlz Xh.o.box).mono ?_;rintro e w1 ⟨rfl,ah⟩;have ah:=ah.symm;subst ah;go_wp2_with fail;refine(qsa Xh.o.box m _ t aq.o hm).mono ?_;rintro e W1 ⟨rfl,d⟩;cases s:qdi n t with
 |false=>
  have R:qe7 ts t=none:=qxf Xh.o.right s;clear s;refine hd2 ?_ d R;clear d R;intro p aa;go_wp2_with fail
  go_ret2
  exact⟨by rw [aa.o];rfl,p.o.mt⟩
 |true=>
  have aA:=qmc s;obtain⟨Wd,y⟩:=ex (W1.drew)
  replace d:wE w Wd:=by rw [←y];exact d.trans kDr
  have af:=qd8 aq.o (m:=m) d.mt (zG _);have ag:t.length<=16:=wA
  have U:(qa6 t).length=16:=qhy wA;have Y: ∃q,keyOf prog 214 (qhn (qa6 t))=some q:=qqx U (qoj ao.o);have z1:=d.size;have x:=qb (Xh.o.keep d (fun _ _ _ _=>wF)).box 3 _ rfl;simp only [zD]at x;have aw:B<Wd.heap.size:=wA
  clear U;have aB:=qng m _ t Wd af wA ag;refine hd6 ?_ d af Y s aA aB;clear d af Y s aA aB;intro p aH ab aG ar au;have l:=zg x;clear x;have x:W1.cell? ⟨B,3,none⟩=some (.map (some P)):=by rw [←y] at l;exact l.o
  have aJ:B<W1.heap.size:=by rw [←y] at aw;exact aw
  subst y;go_wp2_with fail;refine qau rfl (fun W=>W.cell? ⟨B,3,none⟩=some (.map (some P))) [11] ?_;clear x;refine qq [0,1,2,3,4] ?_
  iterate 5
   refine tkA rfl l.o ?_
   try simp only [qr]
  refine ql ?_;refine ho 5 rfl fun K aj=>?_;go_wp2_with fail;refine au.o.mono ?_;rintro e W2 ⟨rfl,u⟩
  replace u:Keep (fun b=>b<w.heap.size) w W2:=p.o.mt.trans (u.mono fun b _ h=>wA)
  have hd:=Xh.o.keep u (fun b T hb ay=>ay);have ad:=qd7 (P:=prog) Tryz.underlying206 qli.law qjz qvd hd.pmap (qa6 t) ab.o true;have z:((qee ts).map (·.1)).Nodup:=by
   obtain⟨_,_,_,_,z,_⟩:=hd.pmap;exact z
  rw [qqy hd.len ar.o z]at ad;have x:=qb hd.box 3 _ rfl;simp only [zD]at x;have g:=zg x;have aK:B<W2.heap.size:=qe hd.box;clear z hd x;refine hd1 ?_ u;clear u;intro av;cases ae:qe7 ts t
  all_goals
   rw [ae]at ad;simp only [yg]at ad;refine hd1 ?_ ae;clear ae;intro ap;go_wp2_with fail;refine aj.o _ _ (fun _=>g.o) ?_;refine ho 6 rfl fun K ak=>?_;go_wp2_with fail;refine ak.o _ _ (fun _=>g.o) ?_;refine ho 7 rfl fun K al=>?_;go_wp2_with fail;refine al.o _ _ (fun _=>g.o) ?_;refine qq [8,9] ?_
   iterate 2
    refine tkA rfl g.o ?_
    try simp only [qr]
   refine ql ?_;refine ho 10 rfl fun K am=>?_;go_wp2_with fail;refine am.o _ _ (fun _=>g.o) ?_;refine ho 11 rfl fun K an=>?_;go_wp2_with fail;refine an.o _ _ (fun h=>by simp at h) ?_;refine qa0 wB ?_;go_wp2_with fail
   go_ret2
   exact⟨by rw [ap.o];rfl,av.o⟩
end Go.Proofs.R4
namespace Go.Proofs.P16
open Go.RowKit Go.Ink
attribute [local go_sem] Oper.semAt_some
def qi0 (c:Int):Bool:=decide (48<=c)&&decide (c<=57)
def qgr (c:Int):Bool:=decide (97<=c)&&decide (c<=122)
def qfw (c:Int):Bool:=decide (65<=c)&&decide (c<=90)
def qcb (c:Int):Bool:=qgr c ||qfw c ||qi0 c ||decide (c=95)
theorem qxg (c:Int)(w:World):Calls prog 173 #[.int .u8 c] w fun e w'=>e=.returned (.bool (qcb c))/\w'=w:=by
 go_enter Tryz.func173,Tryz.ntmps173
 go_wp2
 all_goals go_ret
 all_goals (refine⟨yN (fun b=>Ending.returned (Value.bool b)) ?_,rfl⟩;rw [yu];simp only [qcb,qgr,qfw,qi0,y8,zV,zT,xC];(try simp only [true_iff,false_iff,iff_true,iff_false,zz]);omega)
def qcq (s:ByteArray):List Int:=s.data.toList.map fun c=>(c.toNat:Int)
theorem qjc (s:ByteArray):(qcq s).length=s.size:=by rw [qcq,zL,Array.length_toList];rfl
theorem qgb (s:ByteArray){k:Nat}(h:k<s.size):(qcq s)[k]?=some ((s[k].toNat:Nat):Int):=by
 have b:k<s.data.toList.length:=by rw [Array.length_toList];exact h
 simp only [qcq,zP,zB b,Option.map_some]
 rfl
theorem qh2 {α:Type}(p:α->Bool)(l:List α){k:Nat}{c:α}(h:l[k]?=some c):(l.take (k+1)).all p=((l.take k).all p&&p c):=by
 rw [zh,h,all_append];simp
theorem qju {α:Type}(p:α->Bool)(l:List α){k:Nat}{c:α}(h:l[k]?=some c)(b:p c=false):l.all p=false:=by
 cases d:l.all p with
 |false=>rfl
 |true=>rw [yM.1 d c (zH h)] at b;cases b
def qbv (s:ByteArray):Bool:=(qcq s).all qcb&&(decide (1<=s.size)&&decide (s.size<=64))
theorem qil {a b:ByteArray}(h:a=b):(a.toList==b.toList)=true:=by simp [h]
theorem qgn {a b:ByteArray}(h:a≠b):(a.toList==b.toList)=false:=by
 rw [←beq_toListBytes];exact y7.2 h
theorem qg2 (a b:ByteArray):(a=b)=((a.toList==b.toList)=true):=by
 rw [←beq_toListBytes,xC]
def qg3:ByteArray:=⟨#[105,110,112,117,116]⟩
def qfx:ByteArray:=⟨#[111,117,116,112,117,116]⟩
def qj7:ByteArray:=⟨#[110,111,116]⟩
def qez (s:ByteArray):Int:=(qcq s).headD 0
def qeo (s:ByteArray):Bool:=decide (s=qg3) ||decide (s=qfx) ||decide (s=qj7)
def qdk (s:ByteArray):Bool:=qbv s&&qgr (qez s)&&!qeo s
def qh3 (s:ByteArray):Bool:=qbv s&&qfw (qez s)
def qg4 (s:ByteArray):Bool:=decide (s.size<=1024)
def qhh (s:ByteArray):Int:=
 if qbv s then
  if qi0 (qez s) then (if (qcq s).all (fun c=>decide (c<=57)) then 3 else 0)
  else if qfw (qez s) then 2
  else if qez s=95 then 0
  else if s=qg3 then 5 else if s=qfx then 6 else if s=qj7 then 7 else 1
 else 0
theorem qj8 {s:ByteArray}(h:qbv s=true):qcb (qez s)=true:=by
 unfold qbv at h;rw [zV,zV,zT,zT]at h;have d:=qjc s;unfold qez;cases b:qcq s with
 |nil=>rw [b] at d;simp at d;omega
 |cons c r=>rw [b] at h;simp only [all_cons,zV] at h;exact h.1.1
theorem q0s (s:ByteArray):decide (qhh s=1)=qdk s:=by
 unfold qhh qdk qeo;cases h:qbv s with
 |false=>simp
 |true=>
  have g:=qj8 h;simp only [yg,yU];generalize qez s=c at g;simp only [qcb,qgr,qfw,qi0,y8,zV,zT]at g⊢;by_cases b:s=qg3
  ·rw [zI b];simp only [b,decide_true,Bool.true_or,Bool.not_true,yO];repeat' split
   all_goals simp
  ·by_cases d:s=qfx
   ·rw [zF b,zI d];simp only [d,decide_true,Bool.true_or,Bool.or_true,Bool.not_true,yO];repeat' split
    all_goals simp
   ·by_cases e:s=qj7
    ·rw [zF b,zF d,zI e];simp only [e,decide_true,Bool.true_or,Bool.or_true,Bool.not_true,yO];repeat' split
     all_goals simp
    ·rw [zF b,zF d,zF e];simp only [b,d,e,decide_false,Bool.or_self,Bool.not_false,xK];rw [yu];simp only [zV,zT]
     repeat' split
     all_goals omega
theorem q3w (s:ByteArray):decide (qhh s=2)=qh3 s:=by
 unfold qhh qh3;cases d:qbv s with
 |false=>simp
 |true=>
  have b:=qj8 d;simp only [yg,yU];generalize qez s=c at b;simp only [qcb,qgr,qfw,qi0,y8,zV,zT]at b⊢;rw [yu];simp only [zV,zT]
  repeat' split
  all_goals omega
theorem qq1 (s:ByteArray)(w:World):Calls prog 130 #[.string s] w fun e w'=>e=.returned (.int .i64 (qhh s))/\w'=w:=by
 by_cases hw:1<=s.size/\s.size<=64
 ·obtain⟨h1,h2⟩:=hw;have g1: ¬(s.size:Int)<1:=by omega
  have g2: ¬64<(s.size:Int):=wA
  go_enter Tryz.func130,Tryz.ntmps130
  go_wp2_with fail
  go_loopw [16,3] (fun i dg wr=> ∃k:Nat,k<=s.size/\i=.int .i64 (k:Int)/\dg=.bool (((qcq s).take k).all fun c=>decide (c<=57))/\wr=w/\((qcq s).take k).all qcb=true) (fun i _ _=>s.size-(intOf i).toNat)
  case atStart=>exact⟨0,wA,rfl,rfl,rfl,rfl⟩
  case round=>
   obtain⟨k,hk,rfl,rfl,l,g⟩:=hrel;have l:=l.symm;subst l;by_cases ak:k<s.size
   ·have az:(k:Int)<s.size:=by omega
    have aI:(0:Int)<=k:=wA
    have d:=qgb s ak;have t:=qh2 qcb (qcq s) d;have p:=qh2 (fun c=>decide (c<=57)) (qcq s) d;rw [g,yU]at t;obtain⟨dg,m⟩: ∃b,(((qcq s).take k).all fun c=>decide (c<=57))=b:=⟨_,rfl⟩;rw [m]at p;rw [m];have q:=qxg ((s[k].toNat:Nat):Int) w;cases hc:qcb ((s[k].toNat:Nat):Int) with
    |false=>
     rw [hc]at q;have ad:=qju qcb _ d hc;have hE:qhh s=0:=by unfold qhh qbv;rw [ad];rfl
     refine hd9 ?_ d t p q hc ad g m hE;clear d t p q hc ad g m hE;intro af R v u ao av Y ag x;go_wp2_with fail;refine u.o.mono ?_;rintro e w1 ⟨rfl,l⟩;have l:=l.symm;subst l;go_wp2_with fail;go_ret;exact⟨by rw [x.o];rfl,rfl⟩
    |true=>
     rw [hc]at q t;refine hd7 ?_ d t p q hc g m;clear d t p q hc g m;intro af R v u ao Y ag;cases dg
     all_goals go_wp2_with fail
     all_goals refine u.o.mono ?_
     all_goals (rintro e w1 ⟨rfl,l⟩;have l:=l.symm;subst l)
     all_goals go_wp2_with fail
     all_goals go_roundw
     all_goals (first |exact⟨k+1,wA,by go_num,by rw [v.o];rfl,by trivial,R.o⟩ |(simp [intOf];omega))
   ·obtain rfl:k=s.size:=by omega
    rw [yx (by rw [qjc];omega)]at g⊢;have hW:qbv s=true:=by unfold qbv;rw [g,zS h1,zS h2];rfl
    have h0:0<s.size:=wA
    have d:=qgb s h0;have ab:qez s=((s[0].toNat:Nat):Int):=by
     unfold qez;cases hb:qcq s with
     |nil=>rw [hb] at d;simp at d
     |cons c r=>rw [hb] at d;simpa using d
    obtain⟨U,y⟩: ∃c:Int,((s[0].toNat:Nat):Int)=c:=⟨_,rfl⟩;obtain⟨dg,m⟩: ∃b,((qcq s).all fun c=>decide (c<=57))=b:=⟨_,rfl⟩;have ae:=qj8 hW;have al:48<=U/\U<=122:=by
     rw [ab,y]at ae;simp only [qcb,qgr,qfw,qi0,y8,zV,zT]at ae;omega
    have aK:wrap32 ((s[0].toNat:Nat):Int)=U:=by rw [y];exact IntWalk.wrap32_in _ wA
    obtain⟨i1,aq⟩: ∃b,(s.toList== [105,110,112,117,116])=b:=⟨_,rfl⟩;obtain⟨i2,ar⟩: ∃b,(s.toList== [111,117,116,112,117,116])=b:=⟨_,rfl⟩;obtain⟨i3,au⟩: ∃b,(s.toList== [110,111,116])=b:=⟨_,rfl⟩;have j1:(s=qg3)=(i1=true):=by
     rw [←aq];have e:qg3.toList= [105,110,112,117,116]:=wB
     rw [←e];exact qg2 s qg3
    have j2:(s=qfx)=(i2=true):=by
     rw [←ar];have e:qfx.toList= [111,117,116,112,117,116]:=wB
     rw [←e];exact qg2 s qfx
    have j3:(s=qj7)=(i3=true):=by
     rw [←au];have e:qj7.toList= [110,111,116]:=wB
     rw [←e];exact qg2 s qj7
    have hK:qhh s=(if 48<=U/\U<=57 then (if dg=true then 3 else 0) else if 65<=U/\U<=90 then 2 else if U=95 then 0 else if i1=true then 5 else if i2=true then 6 else if i3=true then 7 else 1):=by
     unfold qhh;rw [hW,ab,y,m];simp only [yg,j1,j2,j3,qi0,qfw,zV,zT]
    clear ae j1 j2 j3;rw [m];have aJ:(0:Int)<s.size:=wA
    clear hW d ab g m ak hk y;refine hd2 ?_ hK al;clear hK al;intro an aw;go_wp2_with fail
    all_goals go_ret
    all_goals (refine⟨?_,rfl⟩;rw [an.o];refine yN (fun z=>Ending.returned (Value.int .i64 z)) ?_;(try simp only [xC,y7] at*);repeat' split)
    all_goals (first |rfl |omega |(simp_all;done) |(simp_all;omega))
 ·have hE:qhh s=0:=by
   unfold qhh qbv;rw [zF];intro h;rw [zV,zV,zT,zT]at h;exact hw h.2
  refine hd1 ?_ hE;clear hE;intro x;rcases yY s.size 1 with h1 |h1
  ·have g1:(s.size:Int)<1:=by omega
   clear hw h1
   go_enter Tryz.func130,Tryz.ntmps130
   go_wp2_with fail;go_ret;exact⟨by rw [x.o];rfl,rfl⟩
  ·have g1: ¬(s.size:Int)<1:=by omega
   have g2:64<(s.size:Int):=wA
   clear hw h1
   go_enter Tryz.func130,Tryz.ntmps130
   go_wp2_with fail;go_ret;exact⟨by rw [x.o];rfl,rfl⟩
theorem qoy (s:ByteArray)(w:World):Calls prog 88 #[.string s] w fun e w'=>e=.returned (.bool (qdk s))/\w'=w:=by
 have l:=qq1 s w;have h:=q0s s;obtain⟨k,b⟩:=ex (qhh s);rw [b]at l h;refine hd3 ?_ l h b;clear l h b;intro g d m
 go_enter Tryz.func88,Tryz.ntmps88
 go_wp2_with fail;refine g.o.mono ?_;rintro e p ⟨rfl,c⟩;have c:=c.symm;subst c;go_wp2_with fail;go_ret;exact⟨by rw [←d.o];rfl,rfl⟩
theorem q0t (s:ByteArray)(w:World):Calls prog 272 #[.string s] w fun e w'=>e=.returned (.bool (qh3 s))/\w'=w:=by
 have l:=qq1 s w;have h:=q3w s;obtain⟨k,b⟩:=ex (qhh s);rw [b]at l h;refine hd3 ?_ l h b;clear l h b;intro g d m
 go_enter Tryz.func272,Tryz.ntmps272
 go_wp2_with fail;refine g.o.mono ?_;rintro e p ⟨rfl,c⟩;have c:=c.symm;subst c;go_wp2_with fail;go_ret;exact⟨by rw [←d.o];rfl,rfl⟩
theorem qnv (s:ByteArray):decide ((s.size:Int)<=1024)=qg4 s:=by unfold qg4;rw [yj];omega
theorem qvi (s:ByteArray)(w:World):Calls prog 273 #[.string s] w fun e w'=>e=.returned (.bool (qg4 s))/\w'=w:=by
 rw [←qnv]
 go_enter Tryz.func273,Tryz.ntmps273
 go_wp2_with fail;go_ret;exact⟨rfl,rfl⟩
theorem q8m {s:ByteArray}(h:0<s.size):((s[0].toNat:Nat):Int)=qez s:=by
 have b:=qgb s h;unfold qez;cases d:qcq s with
 |nil=>rw [d] at b;simp at b
 |cons c r=>rw [d] at b;simpa using b.symm
def qcc {α:Type}(p:α->Bool):List α->Int
 | []=> -1
 |x::r=>if p x then 0 else (if qcc p r<0 then-1 else qcc p r+1)
theorem qgc {α:Type}(p:α->Bool): ∀(l:List α),l.any p=false->qcc p l= -1
 | [],_=>rfl
 |x::r,h=>by
  simp only [any_cons,xF]at h;have ih:=qgc p r h.2;simp [qcc,h.1,ih]
theorem qgd {α:Type}(p:α->Bool): ∀(l:List α) (k:Nat) (x:α),l[k]?=some x->(l.take k).any p=false->p x=true->qcc p l=(k:Int)
 | [],k,x,h,_,_=>by simp at h
 |y::r,0,x,h,_,hp=>by
  simp only [getElem?_cons_zero,yb]at h;subst h;simp [qcc,hp]
 |y::r,k+1,x,h,hn,hp=>by
  simp only [getElem?_cons_succ]at h;simp only [take_succ_cons,any_cons,xF]at hn;have ih:=qgd p r k x h hn.2 hp;simp only [qcc,hn.1,ih];have b: ¬((k:Int)<0):=wA
  simp [b]
theorem qf4 {α:Type}(p:α->Bool): ∀(l:List α),decide (0<=qcc p l)=l.any p
 | []=>rfl
 |x::r=>by
  have ih:=qf4 p r;have e:qcc p (x::r)=if p x=true then 0 else (if qcc p r<0 then-1 else qcc p r+1):=rfl
  rw [e,any_cons,←ih];by_cases b:p x=true
  ·rw [zI b,b];rfl
  ·rw [zF b,xt]at*;rw [b,xH,yj];split<;>omega
theorem q0u {α:Type}(p:α->Bool)(l:List α):(decide (qcc p l≥0))=l.any p:=qf4 p l
theorem qj9 {α:Type}(p:α->Bool)(l:List α){k:Nat}{c:α}(h:l[k]?=some c):(l.take (k+1)).any p=((l.take k).any p ||p c):=by
 rw [zh,h,any_append];simp
theorem qvj {gf:Nat}{bs lb:Array Value}(eg: ∀args w,(callFunc gf args).run prog w=.ok (.enter gf args) w)(p:TermD->Bool)(n0:Nat)(v:Value)(xs:List (TermD))(w:World)(hx:qak n0 w v xs)(hn:n0<=w.heap.size)
  (hf: ∀x,x∈xs-> ∀W,Keep (fun b=>b<w.heap.size) w W->Calls prog gf (bs.push (.agg #[.bool x.var,.string x.text])++lb) W fun e w'=>e=.returned (.bool (p x))/\Keep (fun b=>b<W.heap.size) W w'):
  Calls prog 203 #[v,.func (.func gf) bs lb] w fun e w'=>e=.returned (.int .i64 (qcc p xs))/\Keep (fun b=>b<w.heap.size) w w':=by
 obtain⟨a,cap,rfl,ag,ae,z⟩:=id hx;refine hd2 ?_ z hf;clear z hf;intro t Y
 go_enter Tryz.func203,Tryz.ntmps203
 go_wp2_with fail
 go_loopw [8] (fun i wr=> ∃k:Nat,k<=xs.length/\i=.int .i64 (k:Int)/\Keep (fun b=>b<w.heap.size) w wr/\(xs.take k).any p=false) (fun i _=>xs.length-(intOf i).toNat)
 case atStart=>exact⟨0,wA,rfl,Keep.refl _ _,rfl⟩
 case round=>
  obtain⟨k,hk,rfl,hK,c⟩:=hrel;have aq:=hK.size;by_cases ab:k<xs.length
  ·have ah:(k:Int)<xs.length:=by omega
   have ap:(0:Int)<=k:=wA
   obtain⟨x,h⟩: ∃x,xs[k]?=some x:=⟨_,zB ab⟩;obtain⟨b,o,rfl,hb,q0,q1⟩:=t.o k x h;have h0:=hK.cell (q0) (show b<w.heap.size from wA);have h1:=hK.cell (q1) (show b<w.heap.size from wA)
   try simp only [yB,Nat.add_zero] at h0 h1
   have ao:b<wr.heap.size:=wA
   have l:=qj9 p xs h;rw [c,xH]at l;have hc:=Y.o x (zH h) wr hK;obtain⟨px,s⟩: ∃b,p x=b:=⟨_,rfl⟩;have d:=qgd p xs k x h c;rw [s]at l hc d
   skip
   clear h q0 q1;refine hd6 ?_ hK c l s hc d;clear hK c l s hc d;intro q R u ad U g;go_wp2_with fail;refine U.o.mono ?_;rintro e W1 ⟨rfl,k1⟩;have y:=q.o.trans (k1.mono fun b hb _=>wA);clear k1;refine hd1 ?_ y;clear y;intro m;cases px
   ·go_wp2_with fail;go_roundw
    case rel=>exact⟨k+1,wA,by go_num,m.o,u.o⟩
    case measure=>simp [intOf];omega
   ·go_wp2_with fail;go_ret;exact⟨by rw [g.o (by trivial)];rfl,m.o⟩
  ·obtain rfl:k=xs.length:=by omega
   rw [zi]at c;have d:=qgc p xs c;refine hd2 ?_ hK d;clear hK d;intro q g;go_wp2_with fail;go_ret;exact⟨by rw [g.o];rfl,q.o⟩
theorem qim {gf:Nat}{bs lb:Array Value}(t: ∀args w,(callFunc gf args).run prog w=.ok (.enter gf args) w)(p:TermD->Bool)(n0:Nat)(v:Value)(xs:List (TermD))(w:World)(z:qak n0 w v xs)(Y:n0<=w.heap.size)
  (q: ∀x,x∈xs-> ∀W,Keep (fun b=>b<w.heap.size) w W->Calls prog gf (bs.push (.agg #[.bool x.var,.string x.text])++lb) W fun e w'=>e=.returned (.bool (p x))/\Keep (fun b=>b<W.heap.size) W w'):
  Calls prog 149 #[v,.func (.func gf) bs lb] w fun e w'=>e=.returned (.bool (xs.any p))/\Keep (fun b=>b<w.heap.size) w w':=by
 have hi:=qvj t p n0 v xs w z Y q;have l:=qf4 p xs;obtain⟨i,c⟩:=ex (qcc p xs);rw [c]at hi l;obtain⟨a,cap,rfl,y,u,m⟩:=id z;clear m t;refine hd4 ?_ hi q l c;clear hi q l c;intro g U d s
 go_enter Tryz.func149,Tryz.ntmps149
 go_wp2_with fail;refine g.o.mono ?_;rintro e W1 ⟨rfl,R⟩;refine hd1 ?_ R;clear R;intro h;go_wp2_with fail;go_ret;exact⟨by rw [←d.o];rfl,h.o⟩
theorem qkr {n:Nat}{w w':World}{v:Value}{ss:List Int}(h:qay n w v ss)(hK:Keep (fun k=>k<n) w w'):qay n w' v ss:=h.mono fun _ _ _ b h=>hK.cell h b
theorem qam {n:Nat}{w w':World}{v:Value}{ss:List ByteArray}(h:qaf n w v ss)(hK:Keep (fun k=>k<n) w w'):qaf n w' v ss:=h.mono fun _ _ _ b h=>hK.cell h b
def qep (L:LitD)(sa:Value):Value:=.agg #[.int .i64 L.kind,.string L.atom.pred,sa,.bool L.left.var,.string L.left.text,.bool L.right.var,.string L.right.text]
structure qas where
 pred:ByteArray
 rows:Int
 dist:List Int
 deriving DecidableEq,Inhabited
def qmd (s:qas)(sv:Value):Value:=.agg #[.string s.pred,.int .i64 s.rows,sv]
def q7e (n:Nat)(w:World)(b o:Nat)(s:qas):Prop:= ∃sv,CellsE w b o [.string s.pred,.int .i64 s.rows,sv]/\qay n w sv s.dist
abbrev SizesIn (n:Nat)(w:World)(v:Value)(ss:List qas):Prop:=SliceIn n w 3 (q7e n) v ss
theorem SizesIn.keep {n:Nat}{w w':World}{v:Value}{ss:List qas}(h:SizesIn n w v ss)(hK:Keep (fun k=>k<n) w w'):SizesIn n w' v ss:=
 h.mono fun b o s hb ⟨sv,h1,h2⟩=>⟨sv,fun j v c=>hK.cell (h1 j v c) hb,qkr h2 hK⟩
theorem qxh {gf:Nat}{bs lb:Array Value}(eg: ∀args w,(callFunc gf args).run prog w=.ok (.enter gf args) w)(p:LitD->Bool)(n0:Nat)(v:Value)(xs:List (LitD))(w:World)(hx:qge n0 w v xs)(hn:n0<=w.heap.size)
  (hf: ∀x,x∈xs-> ∀W,Keep (fun b=>b<w.heap.size) w W-> ∀sa,qak n0 W sa x.atom.args->Calls prog gf (bs.push (qep x sa)++lb) W fun e w'=>e=.returned (.bool (p x))/\Keep (fun b=>b<W.heap.size) W w'):
  Calls prog 152 #[v,.func (.func gf) bs lb] w fun e w'=>e=.returned (.int .i64 (qcc p xs))/\Keep (fun b=>b<w.heap.size) w w':=by
 obtain⟨a,cap,rfl,ai,ag,U⟩:=id hx;refine hd2 ?_ U hf;clear U hf;intro y ad
 go_enter Tryz.func152,Tryz.ntmps152
 go_wp2_with fail
 go_loopw [8] (fun i wr=> ∃k:Nat,k<=xs.length/\i=.int .i64 (k:Int)/\Keep (fun b=>b<w.heap.size) w wr/\(xs.take k).any p=false) (fun i _=>xs.length-(intOf i).toNat)
 case atStart=>exact⟨0,wA,rfl,Keep.refl _ _,rfl⟩
 case round=>
  obtain⟨k,hk,rfl,hK,c⟩:=hrel;have ay:=hK.size;by_cases ae:k<xs.length
  ·have aj:(k:Int)<xs.length:=by omega
   have ax:(0:Int)<=k:=wA
   obtain⟨x,l⟩: ∃x,xs[k]?=some x:=⟨_,zB ae⟩;obtain⟨b,o,rfl,hb,sa,s,qt⟩:=y.o k x l;have h0:=hK.cell (s 0 _ rfl) (show b<w.heap.size from wA);have h1:=hK.cell (s 1 _ rfl) (show b<w.heap.size from wA);have h2:=hK.cell (s 2 _ rfl) (show b<w.heap.size from wA);have h3:=hK.cell (s 3 _ rfl) (show b<w.heap.size from wA);have h4:=hK.cell (s 4 _ rfl) (show b<w.heap.size from wA);have h5:=hK.cell (s 5 _ rfl) (show b<w.heap.size from wA);have h6:=hK.cell (s 6 _ rfl) (show b<w.heap.size from wA)
   try simp only [yB,Nat.add_zero] at h0 h1 h2 h3 h4 h5 h6
   have aw:b<wr.heap.size:=wA
   have m:=qj9 p xs l;rw [c,xH]at m;have Y:=ad.o x (zH l) wr hK sa (qan qt (hK.mono fun b _ h=>wA));obtain⟨px,u⟩: ∃b,p x=b:=⟨_,rfl⟩;have d:=qgd p xs k x l c;rw [u]at m Y d;unfold qep at Y;clear l s qt;refine hd6 ?_ hK c m u Y d;clear hK c m u Y d;intro t aa z af ab g;go_wp2_with fail;refine ab.o.mono ?_;rintro e W1 ⟨rfl,k1⟩;have R:=t.o.trans (k1.mono fun b hb _=>wA);clear k1;refine hd1 ?_ R;clear R;intro q;cases px
   ·go_wp2_with fail;go_roundw
    case rel=>exact⟨k+1,wA,by go_num,q.o,z.o⟩
    case measure=>simp [intOf];omega
   ·go_wp2_with fail;go_ret;exact⟨by rw [g.o (by trivial)];rfl,q.o⟩
  ·obtain rfl:k=xs.length:=by omega
   rw [zi]at c;have d:=qgc p xs c;refine hd2 ?_ hK d;clear hK d;intro t g;go_wp2_with fail;go_ret;exact⟨by rw [g.o];rfl,t.o⟩
theorem qla {gf:Nat}{bs lb:Array Value}(t: ∀args w,(callFunc gf args).run prog w=.ok (.enter gf args) w)(p:LitD->Bool)(n0:Nat)(v:Value)(xs:List (LitD))(w:World)(z:qge n0 w v xs)(Y:n0<=w.heap.size)
  (q: ∀x,x∈xs-> ∀W,Keep (fun b=>b<w.heap.size) w W-> ∀sa,qak n0 W sa x.atom.args->Calls prog gf (bs.push (qep x sa)++lb) W fun e w'=>e=.returned (.bool (p x))/\Keep (fun b=>b<W.heap.size) W w'):
  Calls prog 107 #[v,.func (.func gf) bs lb] w fun e w'=>e=.returned (.bool (xs.any p))/\Keep (fun b=>b<w.heap.size) w w':=by
 have hi:=qxh t p n0 v xs w z Y q;have l:=qf4 p xs;obtain⟨i,c⟩:=ex (qcc p xs);rw [c]at hi l;obtain⟨a,cap,rfl,y,u,m⟩:=id z;clear m t;refine hd4 ?_ hi q l c;clear hi q l c;intro g U d s
 go_enter Tryz.func107,Tryz.ntmps107
 go_wp2_with fail;refine g.o.mono ?_;rintro e W1 ⟨rfl,R⟩;refine hd1 ?_ R;clear R;intro h;go_wp2_with fail;go_ret;exact⟨by rw [←d.o];rfl,h.o⟩
theorem qnw {gf:Nat}{bs lb:Array Value}(eg: ∀args w,(callFunc gf args).run prog w=.ok (.enter gf args) w)(p:qas->Bool)(n0:Nat)(v:Value)(xs:List (qas))(w:World)(hx:SizesIn n0 w v xs)(hn:n0<=w.heap.size)
  (hf: ∀x,x∈xs-> ∀W,Keep (fun b=>b<w.heap.size) w W-> ∀sv,qay n0 W sv x.dist->Calls prog gf (bs.push (qmd x sv)++lb) W fun e w'=>e=.returned (.bool (p x))/\Keep (fun b=>b<W.heap.size) W w'):
  Calls prog 243 #[v,.func (.func gf) bs lb] w fun e w'=>e=.returned (.int .i64 (qcc p xs))/\Keep (fun b=>b<w.heap.size) w w':=by
 obtain⟨a,cap,rfl,ai,ag,R⟩:=id hx;refine hd2 ?_ R hf;clear R hf;intro u ad
 go_enter Tryz.func243,Tryz.ntmps243
 go_wp2_with fail
 go_loopw [8] (fun i wr=> ∃k:Nat,k<=xs.length/\i=.int .i64 (k:Int)/\Keep (fun b=>b<w.heap.size) w wr/\(xs.take k).any p=false) (fun i _=>xs.length-(intOf i).toNat)
 case atStart=>exact⟨0,wA,rfl,Keep.refl _ _,rfl⟩
 case round=>
  obtain⟨k,hk,rfl,hK,c⟩:=hrel;have au:=hK.size;by_cases ae:k<xs.length
  ·have aj:(k:Int)<xs.length:=by omega
   have ar:(0:Int)<=k:=wA
   obtain⟨x,l⟩: ∃x,xs[k]?=some x:=⟨_,zB ae⟩;obtain⟨b,o,rfl,hb,sv,Y,qt⟩:=u.o k x l;have h0:=hK.cell (Y 0 _ rfl) (show b<w.heap.size from wA);have h1:=hK.cell (Y 1 _ rfl) (show b<w.heap.size from wA);have h2:=hK.cell (Y 2 _ rfl) (show b<w.heap.size from wA)
   try simp only [yB,Nat.add_zero] at h0 h1 h2
   have aq:b<wr.heap.size:=wA
   have m:=qj9 p xs l;rw [c,xH]at m;have U:=ad.o x (zH l) wr hK sv (qkr qt (hK.mono fun b _ h=>wA));obtain⟨px,t⟩: ∃b,p x=b:=⟨_,rfl⟩;have d:=qgd p xs k x l c;rw [t]at m U d;unfold qmd at U;clear l Y qt;refine hd6 ?_ hK c m t U d;clear hK c m t U d;intro s aa y af ab g;go_wp2_with fail;refine ab.o.mono ?_;rintro e W1 ⟨rfl,k1⟩;have z:=s.o.trans (k1.mono fun b hb _=>wA);clear k1;refine hd1 ?_ z;clear z;intro q;cases px
   ·go_wp2_with fail;go_roundw
    case rel=>exact⟨k+1,wA,by go_num,q.o,y.o⟩
    case measure=>simp [intOf];omega
   ·go_wp2_with fail;go_ret;exact⟨by rw [g.o (by trivial)];rfl,q.o⟩
  ·obtain rfl:k=xs.length:=by omega
   rw [zi]at c;have d:=qgc p xs c;refine hd2 ?_ hK d;clear hK d;intro s g;go_wp2_with fail;go_ret;exact⟨by rw [g.o];rfl,s.o⟩
theorem qvk {gf:Nat}{bs lb:Array Value}(t: ∀args w,(callFunc gf args).run prog w=.ok (.enter gf args) w)(p:qas->Bool)(n0:Nat)(v:Value)(xs:List (qas))(w:World)(z:SizesIn n0 w v xs)(Y:n0<=w.heap.size)
  (q: ∀x,x∈xs-> ∀W,Keep (fun b=>b<w.heap.size) w W-> ∀sv,qay n0 W sv x.dist->Calls prog gf (bs.push (qmd x sv)++lb) W fun e w'=>e=.returned (.bool (p x))/\Keep (fun b=>b<W.heap.size) W w'):
  Calls prog 256 #[v,.func (.func gf) bs lb] w fun e w'=>e=.returned (.bool (xs.any p))/\Keep (fun b=>b<w.heap.size) w w':=by
 have hi:=qnw t p n0 v xs w z Y q;have l:=qf4 p xs;obtain⟨i,c⟩:=ex (qcc p xs);rw [c]at hi l;obtain⟨a,cap,rfl,y,u,m⟩:=id z;clear m t;refine hd4 ?_ hi q l c;clear hi q l c;intro g U d s
 go_enter Tryz.func256,Tryz.ntmps256
 go_wp2_with fail;refine g.o.mono ?_;rintro e W1 ⟨rfl,R⟩;refine hd1 ?_ R;clear R;intro h;go_wp2_with fail;go_ret;exact⟨by rw [←d.o];rfl,h.o⟩
theorem qxi {gf:Nat}{bs lb:Array Value}(eg: ∀args w,(callFunc gf args).run prog w=.ok (.enter gf args) w)(p:Int->Bool)(n0:Nat)(v:Value)(xs:List (Int))(w:World)(hx:qay n0 w v xs)(hn:n0<=w.heap.size)
  (hf: ∀x,x∈xs-> ∀W,Keep (fun b=>b<w.heap.size) w W->Calls prog gf (bs.push (.int .i64 x)++lb) W fun e w'=>e=.returned (.bool (p x))/\Keep (fun b=>b<W.heap.size) W w'):
  Calls prog 267 #[v,.func (.func gf) bs lb] w fun e w'=>e=.returned (.int .i64 (qcc p xs))/\Keep (fun b=>b<w.heap.size) w w':=by
 obtain⟨a,cap,rfl,ag,ae,z⟩:=id hx;refine hd2 ?_ z hf;clear z hf;intro t Y
 go_enter Tryz.func267,Tryz.ntmps267
 go_wp2_with fail
 go_loopw [8] (fun i wr=> ∃k:Nat,k<=xs.length/\i=.int .i64 (k:Int)/\Keep (fun b=>b<w.heap.size) w wr/\(xs.take k).any p=false) (fun i _=>xs.length-(intOf i).toNat)
 case atStart=>exact⟨0,wA,rfl,Keep.refl _ _,rfl⟩
 case round=>
  obtain⟨k,hk,rfl,hK,c⟩:=hrel;have ao:=hK.size;by_cases ab:k<xs.length
  ·have ah:(k:Int)<xs.length:=by omega
   have an:(0:Int)<=k:=wA
   obtain⟨x,h⟩: ∃x,xs[k]?=some x:=⟨_,zB ab⟩;obtain⟨b,o,rfl,hb,q0⟩:=t.o k x h;have h0:=hK.cell (q0) (show b<w.heap.size from wA)
   try simp only [yB,Nat.add_zero] at h0
   have am:b<wr.heap.size:=wA
   have l:=qj9 p xs h;rw [c,xH]at l;have hc:=Y.o x (zH h) wr hK;obtain⟨px,s⟩: ∃b,p x=b:=⟨_,rfl⟩;have d:=qgd p xs k x h c;rw [s]at l hc d
   skip
   clear h q0;refine hd6 ?_ hK c l s hc d;clear hK c l s hc d;intro q R u ad U g;go_wp2_with fail;refine U.o.mono ?_;rintro e W1 ⟨rfl,k1⟩;have y:=q.o.trans (k1.mono fun b hb _=>wA);clear k1;refine hd1 ?_ y;clear y;intro m;cases px
   ·go_wp2_with fail;go_roundw
    case rel=>exact⟨k+1,wA,by go_num,m.o,u.o⟩
    case measure=>simp [intOf];omega
   ·go_wp2_with fail;go_ret;exact⟨by rw [g.o (by trivial)];rfl,m.o⟩
  ·obtain rfl:k=xs.length:=by omega
   rw [zi]at c;have d:=qgc p xs c;refine hd2 ?_ hK d;clear hK d;intro q g;go_wp2_with fail;go_ret;exact⟨by rw [g.o];rfl,q.o⟩
theorem qxj {gf:Nat}{bs lb:Array Value}(t: ∀args w,(callFunc gf args).run prog w=.ok (.enter gf args) w)(p:Int->Bool)(n0:Nat)(v:Value)(xs:List (Int))(w:World)(z:qay n0 w v xs)(Y:n0<=w.heap.size)
  (q: ∀x,x∈xs-> ∀W,Keep (fun b=>b<w.heap.size) w W->Calls prog gf (bs.push (.int .i64 x)++lb) W fun e w'=>e=.returned (.bool (p x))/\Keep (fun b=>b<W.heap.size) W w'):
  Calls prog 258 #[v,.func (.func gf) bs lb] w fun e w'=>e=.returned (.bool (xs.any p))/\Keep (fun b=>b<w.heap.size) w w':=by
 have hi:=qxi t p n0 v xs w z Y q;have l:=qf4 p xs;obtain⟨i,c⟩:=ex (qcc p xs);rw [c]at hi l;obtain⟨a,cap,rfl,y,u,m⟩:=id z;clear m t;refine hd4 ?_ hi q l c;clear hi q l c;intro g U d s
 go_enter Tryz.func258,Tryz.ntmps258
 go_wp2_with fail;refine g.o.mono ?_;rintro e W1 ⟨rfl,R⟩;refine hd1 ?_ R;clear R;intro h;go_wp2_with fail;go_ret;exact⟨by rw [←d.o];rfl,h.o⟩
def qbc (t:TermD):Bool:=if t.var then qh3 t.text else qg4 t.text
def smallT (t:TermD):Prop:=t.text.size<=1073741824
def qcy (t:TermD):Value:=.agg #[.bool t.var,.string t.text]
theorem qpn (t:TermD)(w:World):Calls prog 266 #[qcy t] w fun e w'=>e=.returned (.bool (qbc t))/\wE w w':=by
 obtain⟨v,s⟩:=t;unfold qcy;simp only;have p:=fun w=>q0t s w;have q:=fun w=>qvi s w;have u:qbc ⟨v,s⟩=if v then qh3 s else qg4 s:=rfl
 obtain⟨z,d⟩: ∃b,qh3 s=b:=⟨_,rfl⟩;obtain⟨U,g⟩: ∃b,qg4 s=b:=⟨_,rfl⟩;rw [d,g]at u;simp only [d]at p;simp only [g]at q;refine hd5 ?_ p q u d g;clear p q u d g;intro l m h x y;cases v
 ·go_enter Tryz.func266,Tryz.ntmps266
  go_wp2_with fail;refine(m.o _).mono ?_;rintro e R ⟨rfl,c⟩;have c:=c.symm;subst c;go_wp2_with fail;go_ret;exact⟨by rw [h.o];rfl,kAl⟩
 ·cases z
  all_goals go_enter Tryz.func266,Tryz.ntmps266
  all_goals go_wp2_with fail
  all_goals refine(l.o _).mono ?_
  all_goals (rintro e R ⟨rfl,c⟩;have c:=c.symm;subst c)
  all_goals go_wp2_with fail
  all_goals go_ret
  all_goals exact⟨by rw [h.o];rfl,kAl⟩
theorem qxk (t:TermD)(w:World):Calls prog 265 #[qcy t] w fun e w'=>e=.returned (.bool (!qbc t))/\wE w w':=by
 have h:=fun w=>qpn t w;obtain⟨v,s⟩:=t;unfold qcy at h⊢;simp only at h⊢;obtain⟨m,c⟩: ∃b,qbc ⟨v,s⟩=b:=⟨_,rfl⟩;simp only [c]at h;rw [c];refine hd2 ?_ h c;clear h c;intro g d
 go_enter Tryz.func265,Tryz.ntmps265
 go_wp2_with fail;refine(g.o _).mono ?_;rintro e p ⟨rfl,l⟩;go_wp2_with fail;go_ret;exact⟨rfl,kAl.trans l⟩
def qcz (a:qcg):Bool:=qdk a.pred&&decide (a.args.length<=16)&&a.args.all qbc
def smallA (a:qcg):Prop:=a.pred.size<=1073741824/\ ∀t,t∈a.args->smallT t
theorem qlk {α:Type}(p:α->Bool)(l:List α):l.any (fun x=>!p x)=!l.all p:=by
 induction l with
 |nil=>rfl
 |cons x r ih=>simp only [any_cons,all_cons,ih,Bool.not_and]
theorem qvl (n:Nat)(a:qcg)(U:Value)(w:World)(z:qak n w U a.args)(hn:n<=w.heap.size):Calls prog 252 #[.agg #[.string a.pred,U]] w fun e w'=>e=.returned (.bool (qcz a))/\Keep (fun b=>b<w.heap.size) w w':=by
 obtain⟨pr,args⟩:=a;simp only at z⊢;have h1:=fun w=>qoy pr w;have y:qcz ⟨pr,args⟩=(qdk pr&&decide (args.length<=16)&&args.all qbc):=rfl;obtain⟨b1,m⟩: ∃b,qdk pr=b:=⟨_,rfl⟩;have h:=qlk qbc args;obtain⟨b2,p⟩: ∃b,args.all qbc=b:=⟨_,rfl⟩;rw [p]at h;obtain⟨W0,g⟩:=ex (w.alloc (.cells #[.string pr,U] 24));have R:wE w W0:=by rw [←g];exact kAl
 have hz:=R.size;have h2:=qim (gf:=265) (bs:= #[]) (lb:= #[]) (qd6 Tryz.func265 wB rfl) (fun t=>!qbc t) n U args W0 (qan z R.mt) wA
  (fun x _ W _=>(qxk x W).mono fun e w' ⟨e1,k1⟩=>⟨e1,k1.mt⟩)
 rw [h]at h2;rw [m,p]at y;simp only [m]at h1;obtain⟨aa,ca,rfl,ar,aq,af⟩:=id z;have c1:W0.cell? ⟨w.heap.size,1,none⟩=some (.slice aa args.length ca):=by rw [←g];simp
 have l0:w.heap.size<W0.heap.size:=by rw [←g];simp
 clear af z h;have q:decide (args.length<=16)=decide ((args.length:Int)<=16):=by rw [yj];omega
 rw [q]at y;obtain⟨b3,l⟩: ∃b,decide ((args.length:Int)<=16)=b:=⟨_,rfl⟩;rw [l]at y;clear q;refine hd7 ?_ h1 h2 y m p R g;clear h1 h2 y m p R g;intro s Y u ah ai v d;cases b1
 ·go_enter Tryz.func252,Tryz.ntmps252
  go_wp2_with fail;rw [d.o];refine(s.o _).mono ?_;rintro e w1 ⟨rfl,c⟩;have c:=c.symm;subst c;go_wp2_with fail;go_ret;exact⟨by rw [u.o];rfl,v.o.mt⟩
 ·cases b3
  ·have ae: ¬(args.length:Int)<=16:=xT l;clear l
   go_enter Tryz.func252,Tryz.ntmps252
   go_wp2_with fail;rw [d.o];refine(s.o _).mono ?_;rintro e w1 ⟨rfl,c⟩;have c:=c.symm;subst c;go_wp2_with fail;go_ret;exact⟨by rw [u.o];rfl,v.o.mt⟩
  ·have ae:(args.length:Int)<=16:=yE l;clear l
   go_enter Tryz.func252,Tryz.ntmps252
   go_wp2_with fail;rw [d.o];refine(s.o _).mono ?_;rintro e w1 ⟨rfl,c⟩;have c:=c.symm;subst c;go_wp2_with fail;refine Y.o.mono ?_;rintro e W1 ⟨rfl,k1⟩;go_wp2_with fail;go_ret;exact⟨by rw [u.o];cases b2<;>rfl,v.o.trans (k1.mono fun b hb _=>wA) |>.mono fun b hb _=>wF⟩
theorem qi1 (t u:TermD)(W:World):(binOp .eql 77 (qcy t) (qcy u)).run prog W=.ok (.bool (decide (t=u))) W:=by
 obtain⟨a,s⟩:=t;obtain⟨b,r⟩:=u;have e:(s.toList=r.toList)=(s=r):=by rw [qg2,xC]
 unfold qcy;simp [go_sem,e];by_cases c:a=b<;>by_cases d:s=r<;>simp [c,d]
theorem qnx {a:ByteArray}(h:a≠⟨#[]⟩): ¬a.toList= []:=fun e=>by
 have:=qgn h;have b:(⟨#[]⟩:ByteArray).toList= []:=wB
 rw [e,b]at this;cases this
def qdl:TermD:=⟨false,⟨#[]⟩⟩
def qcj (L:LitD):Bool:=
 if L.kind=1∨L.kind=2 then qcz L.atom&&decide (L.left=qdl)&&decide (L.right=qdl)
 else if L.kind=3 then decide (L.atom.pred=⟨#[]⟩)&&decide (L.atom.args.length=0)&&qbc L.left&&qbc L.right
 else false
def q3x (L:LitD):Prop:=smallA L.atom/\smallT L.left/\smallT L.right
theorem q8n (n:Nat)(L:LitD)(sa:Value)(w:World)(ha:qak n w sa L.atom.args)(hn:n<=w.heap.size):Calls prog 254 #[qep L sa] w fun e w'=>e=.returned (.bool (qcj L))/\Keep (fun b=>b<w.heap.size) w w':=by
 have ae:=fun W (hW:qak n W sa L.atom.args) (h2:n<=W.heap.size)=>qvl n L.atom sa W hW h2;have ag:=fun W=>qpn L.left W;have ah:=fun W=>qpn L.right W;have d:=fun W=>qi1 L.left qdl W;have g:=fun W=>qi1 L.right qdl W;have hL:qcj L=if L.kind=1∨L.kind=2 then qcz L.atom&&decide (L.left=qdl)&&decide (L.right=qdl) else if L.kind=3 then decide (L.atom.pred=⟨#[]⟩)&&decide (L.atom.args.length=0)&&qbc L.left&&qbc L.right else false:=rfl
 obtain⟨bA,am⟩: ∃b,qcz L.atom=b:=⟨_,rfl⟩;obtain⟨al,z⟩: ∃b,decide (L.left=qdl)=b:=⟨_,rfl⟩;obtain⟨aw,R⟩: ∃b,decide (L.right=qdl)=b:=⟨_,rfl⟩;obtain⟨ax,U⟩: ∃b,qbc L.left=b:=⟨_,rfl⟩;obtain⟨aS,Y⟩: ∃b,qbc L.right=b:=⟨_,rfl⟩;obtain⟨bl,an⟩: ∃b,qcj L=b:=⟨_,rfl⟩;rw [an];rw [an,am,z,R,U,Y]at hL;simp only [am]at ae;simp only [U]at ag;simp only [Y]at ah;simp only [z]at d;simp only [R]at g;clear an am z R U Y;obtain⟨k,⟨pr,args⟩,⟨lv,lt⟩,⟨rv,rt⟩⟩:=L;unfold qep;unfold qcy qdl at d g;unfold qcy at ag ah;simp only at*;obtain⟨aa,ca,rfl,aD,aC,-⟩:=id ha;obtain⟨m,hm⟩:=ex (args.length);rw [hm]at hL ha ae aD aC;rw [hm];obtain⟨nb,af⟩:=ex (w.heap.size);obtain⟨W0,y⟩:=ex ((w.alloc (.cells #[.int .i64 k,.string pr,.slice aa m ca,.bool lv,.string lt,.bool rv,.string rt] 79)).alloc (.cells #[.bool false,.string ⟨#[]⟩] 77));have k0:wE w W0:=by rw [←y];exact kAl.trans kAl
 have b0:W0.heap[nb]?=some (.cells #[.int .i64 k,.string pr,.slice aa m ca,.bool lv,.string lt,.bool rv,.string rt] 79 (0,0)):=by rw [←y,←af];exact qf0 (qh _ _) _
 have b1:W0.heap[nb+1]?=some (.cells #[.bool false,.string ⟨#[]⟩] 77 (0,0)):=by
  rw [←y,←af];have:=qh (w.alloc (.cells #[.int .i64 k,.string pr,.slice aa m ca,.bool lv,.string lt,.bool rv,.string rt] 79)) (.cells #[.bool false,.string ⟨#[]⟩] 77)
  simpa using this
 have d0:=qb b1 0 _ rfl;have d1:=qb b1 1 _ rfl;have l1:=qe b1;simp only [zD]at d0 d1;have l0:=qe b0;have bg:=k0.size;have ai:=ae W0 (qan ha k0.mt) wA;have c0:=qb b0 0 _ rfl;have c1:=qb b0 1 _ rfl;have c2:=qb b0 2 _ rfl;have c3:=qb b0 3 _ rfl;have c4:=qb b0 4 _ rfl;have c5:=qb b0 5 _ rfl;have c6:=qb b0 6 _ rfl;simp only [zD]at c0 c1 c2 c3 c4 c5 c6;clear ha ae aD aC hm;refine hd9 ?_ hL ai ag ah k0 y af b0 b1;clear hL ai ag ah k0 y af b0 b1;intro aj ak ar au x p q a7 a8;by_cases s:k=1∨k=2
 ·have aA:bl=(bA&&al&&aw):=by rw [aj.o,zI s]
  refine hd1 ?_ aA;clear aA;intro ap;rcases s with rfl |rfl
  all_goals cases bA
  all_goals (try cases al)
  all_goals go_enter Tryz.func254,Tryz.ntmps254
  all_goals go_wp2_with fail
  all_goals rw [p.o,q.o]
  all_goals refine ak.o.mono ?_
  all_goals (rintro e W1 ⟨rfl,t⟩;have a9:=t.cell c3 l0;have ba:=t.cell c4 l0;have aW:=t.cell c5 l0;have aX:=t.cell c6 l0;have bb:=t.cell d0 l1;have bc:=t.cell d1 l1;have bh:=t.size;have a2:nb<W1.heap.size:=wA;have bj:nb+1<W1.heap.size:=wA;have kk:Keep (fun b=>b<nb) w W1:=x.o.mt.trans (t.mono fun b hb _=>wA);clear t c0 c1 c2 c3 c4 c5 c6 d0 d1;have ad:=zg kk;clear kk)
  all_goals go_wp2_with fail
  all_goals go_ret
  all_goals exact⟨by rw [ap.o];(try cases al)<;>(try cases aw)<;>rfl,ad.o.mono fun b hb h=>by have:=q.o;omega⟩
 ·by_cases e3:k=3
  ·have c:bl=(decide (pr=⟨#[]⟩)&&decide (m=0)&&ax&&aS):=by rw [aj.o,zF s,zI e3]
   subst e3;by_cases hp:pr=⟨#[]⟩
   ·subst hp;rw [show decide ((⟨#[]⟩:ByteArray)=⟨#[]⟩)=true from rfl,yU]at c;by_cases aE:m=0
    ·subst aE;rw [show decide (0=0)=true from rfl,yU]at c;refine hd3 ?_ c d g;clear c d g;intro l u v;cases ax
     all_goals go_enter Tryz.func254,Tryz.ntmps254
     all_goals go_wp2_with fail
     all_goals rw [p.o]
     all_goals refine(ar.o _).mono ?_
     all_goals (rintro e W1 ⟨rfl,t⟩;have aX:=t.cell c6 trivial;have aW:=t.cell c5 trivial;have a2:=t.size;have kk:Keep (fun b=>b<nb) w W1:=(x.o.mt.trans (t.mono fun b hb _=>wF));clear t c0 c1 c2 c3 c4 c5 c6 d0 d1;have ad:=zg kk;clear kk)
     ·go_wp2_with fail;go_ret;exact⟨by rw [l.o];rfl,ad.o.mono fun b hb h=>by have:=q.o;omega⟩
     ·rw [q.o];go_wp2_with fail;refine(au.o _).mono ?_;rintro e W2 ⟨rfl,k2⟩;go_wp2_with fail;go_ret;exact⟨by rw [l.o];rfl,(ad.o.trans k2.mt).mono fun b hb h=>by have:=q.o;omega⟩
    ·have bd: ¬(m:Int)=0:=by omega
     rw [zM aE,yZ,yZ]at c;refine hd3 ?_ c d g;clear c d g;intro l u v
     go_enter Tryz.func254,Tryz.ntmps254
     go_wp2_with fail;go_ret;exact⟨by rw [l.o];rfl,by rw [p.o];exact x.o.mt⟩
   ·rw [zM hp,yZ,yZ,yZ]at c;have bf:=qnx hp;refine hd3 ?_ c d g;clear c d g;intro l u v
    go_enter Tryz.func254,Tryz.ntmps254
    go_wp2_with fail;go_ret;exact⟨by rw [l.o];rfl,by rw [p.o];exact x.o.mt⟩
  ·have aB:bl=false:=by rw [aj.o,zF s,zF e3]
   have e1: ¬k=1:=fun h=>s (.inl h);have e2: ¬k=2:=fun h=>s (.inr h);clear s;refine hd3 ?_ aB d g;clear aB d g;intro aq u v
   go_enter Tryz.func254,Tryz.ntmps254
   go_wp2_with fail;go_ret;exact⟨by rw [aq.o];rfl,by rw [p.o];exact x.o.mt⟩
end Go.Proofs.P16
