/- Parts of the proof. -/
import Derived.Test.YtnponcjnahicnaaGreatJnDToTbA
import Derived.Deep.Cut
import Derived.Conc.MuLone
set_option linter.unusedSimpArgs false
set_option linter.unusedVariables false
set_option maxRecDepth 100000
set_option maxHeartbeats 2000000
open Go.Proofs.Tryz(prog)
open List(foldl_cons getElem_idxOf idxOf_append length_singleton map_singleton replicate_succ replicate_zero set_append_right toArray_replicate toList_toArray)
namespace Go.Proofs
open Go.RowKit Go.Ink
attribute [local go_sem] Oper.semAt_some
theorem qel:qcj prog 46 9 1 16:=qc2 (z:=.string ⟨#[]⟩) wD wD rfl wF wF
theorem qwb {xs:List ByteArray}{s:ByteArray}(h:s∈xs)(t:ByteArray):(qr xs t).idxOf s=xs.idxOf s:=by
 unfold qr;split
 ·rfl
 ·rw [idxOf_append,zI h]
theorem qwc {s:ByteArray}: ∀{ts xs:List ByteArray},s∈xs->(ts.foldl qr xs).idxOf s=xs.idxOf s:=by
 intro ts
 induction ts with
 |nil=>intro xs _;rfl
 |cons t ts ih=>
  intro xs h;rw [foldl_cons,ih (by unfold qr;split;exact h;exact xf _ h),qwb h]
def qx (xs:List ByteArray)(t:List ByteArray):List Int:=t.map fun s=>((xs.idxOf s:Nat):Int)
theorem q35 {t ts xs:List ByteArray}(h: ∀s,s∈t->s∈xs):qx (ts.foldl qr xs) t=qx xs t:=xC fun s b=>by rw [qwc (h s b)]
theorem q0y {w:World}{T MX:Nat}{vx:Value}{xs:List ByteArray}(h:TabAt w T MX vx xs)(s:ByteArray)(hs:s.size<=1073741824)(hl:xs.length<=1073741824):
  Calls prog 95 #[pV T,.string s] w fun e w'=> ∃vx',e=.returned (.tuple #[.int .i64 (((qr xs s).idxOf s:Nat):Int),.int .i64 0])/\TabAt w' T MX vx' (qr xs s)/\
   Keep (fun b=>b≠T/\b≠MX/\vx.ownBlock≠some b) w w'/\(∀b,vx'.ownBlock=some b->vx.ownBlock=some b∨w.heap.size<=b):=by
 have c0:=qb h.tab 0 _ rfl;have c1:=qb h.tab 1 _ rfl;have hB:=qe h.tab;simp only [zD]at c0 c1;have r:=qef (P:=prog) Tryz.underlying91 qla qlb qpj h.nums s (qlc hs) true;rw [qpk h.nodup s]at r;by_cases X:s∈xs
 ·rw [zI X]at r;simp only [yj]at r;have hx:qr xs s=xs:=zI X;rw [hx];clear X hx c0;refine hd1 ?_ h;clear h;intro Xh
  go_enter Tryz.func95,Tryz.ntmps95
  go_wp2_with fail;refine(qfp Xh.o).mono ?_;rintro e w9 ⟨rfl,p⟩;have p:=p.symm;subst p;go_wp2_with fail
  go_ret2
  exact⟨_,rfl,Xh.o,Keep.refl _ _,fun b l=>.inl l⟩
 ·rw [zF X]at r;simp only [yj]at r;have hx:qr xs s=xs++ [s]:=zF X;have ah:(xs++ [s]).idxOf s=xs.length:=by rw [idxOf_append,zF X];simp
  rw [hx,ah];obtain⟨W5,av,R,U,ax⟩:=qi0 (P:=prog) Tryz.underlying91 qla qlb h.nums s (qlc hs) xs.length;rw [qx6 X]at R;unfold qui at av;have ae:T≠MX:=fun e=>by
   obtain⟨es,c,q,_⟩:=h.nums;rw [←e,h.tab]at q;cases q
  have ab: ∀b,vx.ownBlock=some b->b≠T:=fun b l e=>by
   rcases h.own.2 with ⟨e1,_⟩ |⟨g,cap,cur,e1,_,e3,_⟩
   ·rw [e1]at l;cases l
   ·rw [e1]at l;cases l;subst e;rw [h.tab]at e3;injection e3 with e3
    injection e3 with _ e3
    exact absurd e3 wF
  have x: ∀b,vx.ownBlock=some b->b≠MX:=fun b l e=>by
   obtain⟨es,c,q,_⟩:=h.nums;rcases h.own.2 with ⟨e1,_⟩ |⟨g,cap,cur,e1,_,e3,_⟩
   ·rw [e1]at l;cases l
   ·rw [e1]at l;cases l;subst e;rw [q]at e3;cases e3
  have aa:=qf h.own U x;have d:=U.heap h.tab ae;obtain⟨v',W6,hr,al,k6,g,cap,hv,z,ag⟩:=qc8 (P:=prog) qel 46 aa [.string s] rfl (by simp [Value.oneCell']) wC (yc _);obtain⟨a,c,rfl⟩:=qj h.own;subst hv;have m:=k6.heap d (fun e=>ab T (by rw [←e]) rfl);have am:g≠T:=fun e=>by
   rcases z with q |q
   ·exact ab g q e
   ·have:=qe d;omega
  have aw:g≠MX:=fun e=>by
   rcases z with q |q
   ·exact x g q e
   ·have:=R.lt;omega
  have af:=R.keep k6 (fun e=>x MX (by rw [←e]) rfl);have d0:=qb d 0 _ rfl;have d6:=qb m 0 _ rfl;have f6:=qg m 0;have aI:=qe d;have aC:=qe m;simp only [zD]at d0 d6;have Y:TabAt (W6.setCell ⟨T,0,none⟩ (.slice (some ⟨g,0,none⟩) (xs.length+1) cap)) T MX (.slice (some ⟨g,0,none⟩) (xs.length+1) cap) (xs++ [s]):=by
   have hk:Keep (fun b=>b≠T) W6 (W6.setCell ⟨T,0,none⟩ (.slice (some ⟨g,0,none⟩) (xs.length+1) cap)):=kSc;refine⟨?_,?_,af.keep hk (fun e=>ae e.symm)⟩
   ·exact qag 0 _ m
   ·rw [zR,length_singleton,zn];exact qf al hk (fun b l=>by simp only [Value.ownBlock] at l;cases l;exact am)
  have t:Keep (fun b=>b≠T/\b≠MX/\(Value.slice a xs.length c).ownBlock≠some b) w (W6.setCell ⟨T,0,none⟩ (.slice (some ⟨g,0,none⟩) (xs.length+1) cap)):=by
   refine((U.mono fun b _ h=>h.2.1).trans (k6.mono fun b _ h=>fun e=>h.2.2 e.symm)).trans (Keep.setCell _ _ _ (fun h=>h.1 rfl))
  have ao: ∀b,(Value.slice (some ⟨g,0,none⟩) (xs.length+1) cap).ownBlock=some b->(Value.slice a xs.length c).ownBlock=some b∨w.heap.size<=b:=fun b l=>by
   simp only [Value.ownBlock]at l;cases l;rcases z with q |q
   ·exact .inl q
   ·exact .inr wC
  rw [ax]at hr;clear X hx ah R U ae ab x aa d al k6 z am aw af m;refine hd6 ?_ h Y t ao hr ag;clear h Y t ao hr ag;intro Xh ad y ak ar aB
  go_enter Tryz.func95,Tryz.ntmps95
  go_wp2_with fail;refine(qfp Xh.o).mono ?_;rintro e w9 ⟨rfl,p⟩;have p:=p.symm;subst p;go_wp2_with (at_builtin;refine qbu (v:=.slice a xs.length c) (u:=.slice (some ⟨w.heap.size,0,none⟩) 1 1) (v':=.slice (some ⟨g,0,none⟩) (xs.length+1) cap) (w':=W6) rfl (.tmp 38) (.tmp 40) 46 rfl rfl rfl ar.o ?_)
  go_ret2
  exact⟨_,rfl,ad.o,y.o,ak.o⟩
theorem qs9 {w:World}{g base:Nat}{e:TypeId}{vs:List Value}(h:w.heap[g]?=some (.cells vs.toArray e (0,0)))(b:base<=g)(c:vs.length<=maxLen):w.ownsRow base e 1 (.slice (some ⟨g,0,none⟩) vs.length vs.length) vs.length vs:=
 ⟨wE,.inr ⟨g,vs.length,vs.toArray,rfl,b,h,zG _,c,wE,wE⟩⟩
theorem qta (n:Nat):madeCells #[.int .i64 0] n=Array.replicate n (Value.int .i64 0):=by
 apply Array.ext
 ·simp [madeCells]
 ·intro i c b;simp [madeCells,Nat.mod_one]
theorem qtb (n:Nat):madeCells #[.string ⟨#[]⟩] n=Array.replicate n (Value.string ⟨#[]⟩):=by
 apply Array.ext
 ·simp [madeCells]
 ·intro i c b;simp [madeCells,Nat.mod_one]
theorem qwd:(prog.info? 3).map (fun i=>(i.zero,i.size,i.bytes))=some (some (.int .i64 0),1,8):=wD
theorem qwe:(prog.info? 9).map (fun i=>(i.zero,i.size,i.bytes))=some (some (.string ⟨#[]⟩),1,16):=wD
theorem qwf (n:Nat)(h:n<=1073741824)(u:World):(Instr.makeSlice 86 (.int .i64 (n:Int)) (.int .i64 (n:Int))).run prog u=
  .ok (.slice (some ⟨u.heap.size,0,none⟩) n n) (u.alloc (.cells (Array.replicate n (Value.int .i64 0)) 3)):=by
 obtain⟨e,hi,c,d,b⟩:=info_parts qwd;have h:=run_make (P:=prog) u 86 3 e (.int .i64 0) Tryz.underlying86 hi c .i64 .i64 (n:Int) (n:Int) wC (Int.le_refl _) (by rw [b];omega) wC
 simpa [d,Value.cells,qta]using h
theorem qkj (n:Nat)(h:n<=1073741824)(u:World):(Instr.makeSlice 46 (.int .i64 (n:Int)) (.int .i64 (n:Int))).run prog u=
  .ok (.slice (some ⟨u.heap.size,0,none⟩) n n) (u.alloc (.cells (Array.replicate n (Value.string ⟨#[]⟩)) 9)):=by
 obtain⟨e,hi,c,d,b⟩:=info_parts qwe;have h:=run_make (P:=prog) u 46 9 e (.string ⟨#[]⟩) Tryz.underlying46 hi c .i64 .i64 (n:Int) (n:Int) wC (Int.le_refl _) (by rw [b];omega) wC
 simpa [d,Value.cells,qtb]using h
theorem qyu (l:List Value)(k:Nat)(v z:Value)(h:l.length=k)(m:Nat):(l++List.replicate (m+1) z).set k v=(l++ [v])++List.replicate m z:=by
 rw [set_append_right _ _ wC,h,xa,replicate_succ];simp
theorem q36 (xs ss:List ByteArray){k:Nat}{s:ByteArray}(h:ss[k]?=some s):(ss.take (k+1)).foldl qr xs=qr ((ss.take k).foldl qr xs) s:=by
 rw [zh,h,yn]
 rfl
theorem q6f {s:ByteArray}{ts xs:List ByteArray}(h:s∈ts):s∈ts.foldl qr xs:=qdn.2 (.inr h)
theorem q37 (xs ss:List ByteArray){k:Nat}{s:ByteArray}(h:ss[k]?=some s):qx ((ss.take (k+1)).foldl qr xs) (ss.take (k+1))=qx ((ss.take k).foldl qr xs) (ss.take k)++ [((((ss.take (k+1)).foldl qr xs).idxOf s:Nat):Int)]:=by
 have e:ss.take (k+1)=ss.take k++ [s]:=by rw [zh,h];rfl
 unfold qx;rw [e,zn,map_singleton]
 congr 1
 refine xC fun t b=>?_;rw [yn];exact yO _ (qwc (ts:= [s]) (q6f b))
theorem qmu {w:World}{T MX:Nat}{vx:Value}{xs:List ByteArray}(h:TabAt w T MX vx xs)(m:Nat)(v:Value)(ss:List ByteArray)(aH:qac m w v ss)(hm:m<=w.heap.size)(aD: ∀s,s∈ss->s.size<=1073741824)(hl:xs.length+ss.length<=1073741824)
  (U: ∀a n c,v=.slice (some a) n c->a.block≠T/\a.block≠MX/\vx.ownBlock≠some a.block):
  Calls prog 57 #[pV T,v] w fun e w'=> ∃vo vx',e=.returned (.tuple #[vo,.int .i64 0])/\TabAt w' T MX vx' (ss.foldl qr xs)/\
   w'.ownsRow w.heap.size 3 1 vo ss.length ((qx (ss.foldl qr xs) ss).map (.int .i64))/\Keep (fun b=>b≠T/\b≠MX/\vx.ownBlock≠some b) w w'/\
   (∀b,vx'.ownBlock=some b->vx.ownBlock=some b∨w.heap.size<=b)/\(∀b,vo.ownBlock=some b->vx'.ownBlock≠some b):=by
 obtain⟨a,c,rfl,aP,a9,aJ⟩:=id aH;have bg:=qe h.tab;have a7:=h.nums.lt;obtain⟨B,hB⟩:=ex (w.heap.size);obtain⟨W0,R⟩:=ex (w.alloc (.cells (Array.replicate ss.length (Value.int .i64 0)) 3));have k0:wG w W0:=by rw [←R];exact kAl
 have z0:W0.heap.size=w.heap.size+1:=by rw [←R];simp
 have q0:W0.heap[w.heap.size]?=some (.cells (List.replicate ss.length (Value.int .i64 0)).toArray 3 (0,0)):=by rw [←R,toArray_replicate];exact qh _ _
 have h0:=h.keep k0 trivial trivial (fun _ _=>wH);have aU:=fun u=>qwf ss.length aP u;have y:=qfp h;have Y: ∀b,vx.ownBlock=some b->b<w.heap.size:=fun b q=>(zE h.own b q).2;rw [hB]at q0 z0 Y;clear aH;refine qhu ?_ aJ aD U k0 q0 h0 R hB h y Y;clear aJ aD U k0 q0 h0 R hB h y Y;intro ax aA ag aO aQ aN ao g Xh af l
 go_enter Tryz.func57,Tryz.ntmps57
 go_wp2_with fail;refine af.o.mono ?_;rintro e w9 ⟨rfl,am⟩;have am:=am.symm;subst am;go_wp2_with fail;rw [ao.o,g.o];clear aU
 go_loopw [17] (fun i' wr=> ∃(k:Nat) (vx':Value),k<=ss.length/\i'=.int .i64 (k:Int)/\TabAt wr T MX vx' ((ss.take k).foldl qr xs)/\wr.heap[B]?=some (.cells (((qx ((ss.take k).foldl qr xs) (ss.take k)).map (Value.int .i64))++List.replicate (ss.length-k) (Value.int .i64 0)).toArray 3 (0,0))/\
  Keep (fun b=>b<B/\b≠T/\b≠MX/\vx.ownBlock≠some b) w wr/\(∀b,vx'.ownBlock=some b->vx.ownBlock=some b∨B<b)) (fun i _=>ss.length-(intOf i).toNat)
 case atStart=>exact⟨0,vx,wC,rfl,aN.o,by simpa [qx] using aQ.o,aO.o.mt,fun b q=>.inl q⟩
 case round=>
  obtain⟨k,vx',hk,rfl,hT,p,hK,t⟩:=hrel;have bb:=hK.size;have bf:=qe p;by_cases av:k<ss.length
  ·have aZ:(k:Int)<ss.length:=by omega
   have a5:(0:Int)<=k:=wC
   obtain⟨s,hs⟩: ∃s,ss[k]?=some s:=⟨_,zB av⟩;obtain⟨b,o,rfl,bh,hc⟩:=ax.o k s hs;have ae:=ag.o _ _ _ rfl;unfold qgr at hc;simp only [yB]at hc;have bi:=hK.cell hc ⟨by have:=g.o;simp only;omega,ae.1,ae.2.1,ae.2.2⟩;have ba:b<wr.heap.size:=by have:=g.o;omega
   have az:=(qe2 (ss.take k) xs).2;rw [yC,xS hk]at az;have r:=q0y hT s (aA.o s (zH hs)) wC;rw [←q36 xs ss hs]at r;have ap:=q37 xs ss hs;have X:(qx ((ss.take k).foldl qr xs) (ss.take k)).length=k:=by unfold qx;rw [zL,yC,xS hk]
   have aB:T≠B:=by have:=qe Xh.o.tab;have:=g.o;omega
   have ar:MX≠B:=by have:=Xh.o.nums.lt;have:=g.o;omega
   have aG:vx'.ownBlock≠some B:=fun e=>by
    rcases t B e with h1 |h1
    ·have:=l.o B h1;omega
    ·omega
   clear hc hs ae az hT;refine hd9 ?_ r p hK t ap X aB ar aG;clear r p hK t ap X aB ar aG;intro ak x an d au ab aj ai aq;go_wp2_with fail;refine ak.o.mono ?_;rintro e W2 ⟨aC,rfl,aw,k2,aI⟩;have aa:=k2.heap x.o ⟨aj.o.symm,ai.o.symm,aq.o⟩;have bc:=qg aa k;have a0:=qe aa;have z:=qag k (.int .i64 (((List.foldl qr xs (ss.take (k+1))).idxOf s:Nat):Int)) aa;rw [yK,show ss.length-k=ss.length-(k+1)+1 from wC,qyu _ k _ _ (by rw [zL];exact ab.o)]at z;have a8:W2.cell? ⟨B,k,none⟩=some (.int .i64 0):=by
    have:=qb aa k (.int .i64 0) (by
     simp only [toList_toArray];rw [yH (by rw [zL,ab.o];exact zG _),zL,ab.o,xa,xW,zI wC])
    simpa using this
   have a4:=k2.size;clear aa;refine hd4 ?_ aw k2 aI z;clear aw k2 aI z;intro ay aR aE al;go_wp2_with fail;go_roundw
   case rel=>
    have kB:Keep (fun b=>b≠B) W2 (W2.setCell ⟨B,k,none⟩ (.int .i64 (((List.foldl qr xs (ss.take (k+1))).idxOf s:Nat):Int))):=kSc;have ah: ∀b,aC.ownBlock=some b->vx.ownBlock=some b∨B<b:=fun b q=>by
     rcases aE.o b q with h1 |h1
     ·exact d.o b h1
     ·exact .inr wC
    refine⟨k+1,aC,wC,by go_num,ay.o.keep kB aj.o ai.o (fun b q e=>?_),?_,?_,ah⟩
    ·subst e;rcases ah _ q with h1 |h1
     ·have:=l.o _ h1;omega
     ·omega
    ·rw [au.o,zn];exact al.o
    ·refine(an.o.trans (aR.o.mono fun b q h=>⟨h.2.1,h.2.2.1,fun e=>?_⟩)).trans (kB.mono fun b _ h=>wC);rcases d.o b e with h1 |h1
     ·exact h.2.2.2 h1
     ·omega
   case measure=>simp [intOf];omega
  ·obtain rfl:k=ss.length:=by omega
   rw [zi]at hT p;rw [xa,replicate_zero,yQ]at p;clear av;refine hd4 ?_ hT p hK t;clear hT p hK t;intro aW x an d;go_wp2_with fail
   go_ret2
   have X:((qx (ss.foldl qr xs) ss).map (Value.int .i64)).length=ss.length:=by unfold qx;rw [zL,zL]
   have ho:=qs9 x.o (base:=B) (zG _) (by rw [X];simp only [maxLen];omega);rw [X]at ho;refine⟨_,vx',rfl,aW.o,ho.mono (by have:=g.o;omega),an.o.mono fun b q h=>⟨by have:=g.o;omega,h⟩,fun b q=>(d.o b q).imp id (fun h=>by have:=g.o;omega),fun b q e=>?_⟩;have aX:B=b:=by simpa [Value.ownBlock] using q
   subst aX;rcases d.o _ e with h1 |h1
   ·have:=l.o _ h1;omega
   ·omega
theorem qwg {w:World}{T MX:Nat}{vx:Value}{xs:List ByteArray}(h:TabAt w T MX vx xs)(m:Nat)(v:Value)(t:List ByteArray)(aj: ∀s,s∈t->s∈xs)(Y:qat m w v (qx xs t))(hm:m<=w.heap.size)(hl:xs.length<=1073741824):
  Calls prog 123 #[pV T,v] w fun e w'=> ∃vo,e=.returned (.tuple #[vo,.int .i64 0])/\w'.ownsRow w.heap.size 9 1 vo t.length (t.map .string)/\wG w w':=by
 obtain⟨a,c,rfl,ag,aq,am⟩:=id Y;have ak:(qx xs t).length=t.length:=by unfold qx;rw [zL]
 rw [ak]at ag aq⊢;have aM:=qe h.tab;obtain⟨B,hB⟩:=ex (w.heap.size);obtain⟨W0,r⟩:=ex (w.alloc (.cells (Array.replicate t.length (Value.string ⟨#[]⟩)) 9));have k0:wG w W0:=by rw [←r];exact kAl
 have z0:W0.heap.size=w.heap.size+1:=by rw [←r];simp
 have q0:W0.heap[w.heap.size]?=some (.cells (List.replicate t.length (Value.string ⟨#[]⟩)).toArray 9 (0,0)):=by rw [←r,toArray_replicate];exact qh _ _
 have ax:=fun u=>qkj t.length ag u;have p:=qfp h;rw [hB]at q0 z0;clear Y ak;refine hd8 ?_ am aj k0 q0 r hB h p;clear am aj k0 q0 r hB h p;intro ah al ar au X g Xh y
 go_enter Tryz.func123,Tryz.ntmps123
 go_wp2_with fail;refine y.o.mono ?_;rintro e w9 ⟨rfl,l⟩;have l:=l.symm;subst l;go_wp2_with fail;rw [X.o,g.o];clear ax
 go_loopw [19] (fun i' wr=> ∃(k:Nat),k<=t.length/\i'=.int .i64 (k:Int)/\wr.heap[B]?=some (.cells (((t.take k).map Value.string)++List.replicate (t.length-k) (Value.string ⟨#[]⟩)).toArray 9 (0,0))/\
  Keep (fun b=>b<B) w wr) (fun i _=>t.length-(intOf i).toNat)
 case atStart=>exact⟨0,wC,rfl,by simpa using au.o,ar.o.mt⟩
 case round=>
  obtain⟨k,hk,rfl,d,hK⟩:=hrel;have aI:=hK.size;have aL:=qe d;by_cases aa:k<t.length
  ·have az:(k:Int)<t.length:=by omega
   have aC:(0:Int)<=k:=wC
   obtain⟨s,hs⟩: ∃s,t[k]?=some s:=⟨_,zB aa⟩;obtain⟨b,o,rfl,aN,hc⟩:=ah.o k (((xs.idxOf s:Nat):Int)) (by unfold qx;rw [zP,hs];rfl);unfold qgc at hc;simp only [yB]at hc;have aP:=hK.cell hc (by have:=g.o;simp only;omega);have aF:b<wr.heap.size:=by have:=g.o;omega
   have ab:=al.o s (zH hs);have hT:TabAt wr T MX vx xs:=Xh.o.keep hK (by have:=g.o;omega) (by have:=Xh.o.nums.lt;have:=g.o;omega) (fun b hb=>by have:=(zE Xh.o.own b hb).2;have:=g.o;omega);have af:=qwy hT (xs.idxOf s) s (by rw [zB (yb ab),getElem_idxOf]) hl;have x:(t.take k).length=k:=by rw [yC,xS hk]
   have ai:t.take (k+1)=t.take k++ [s]:=by rw [zh,hs];rfl
   have aJ:=qg d k;have q:=qag k (.string s) d;rw [yK,show t.length-k=t.length-(k+1)+1 from wC,qyu _ k _ _ (by rw [zL];exact x)]at q;have aE:wr.cell? ⟨B,k,none⟩=some (.string ⟨#[]⟩):=by
    have:=qb d k (.string ⟨#[]⟩) (by
     simp only [toList_toArray];rw [yH (by rw [zL,x];exact zG _),zL,x,xa,xW,zI wC])
    simpa using this
   clear hc hs hT ab x;refine hd5 ?_ af d hK ai q;clear af d hK ai q;intro ad z U ae R;go_wp2_with fail;refine ad.o.mono ?_;rintro e w9 ⟨rfl,l⟩;have l:=l.symm;subst l;go_wp2_with fail;go_roundw
   case rel=>
    refine⟨k+1,wC,by go_num,?_,U.o.trans (kSc)⟩;rw [ae.o,zn];exact R.o
   case measure=>simp [intOf];omega
  ·obtain rfl:k=t.length:=by omega
   rw [zi,xa,replicate_zero,yQ]at d;clear aa;refine hd2 ?_ d hK;clear d hK;intro z U;go_wp2_with fail
   go_ret2
   have ho:=qs9 z.o (base:=B) (zG _) (by rw [zL];simp only [maxLen];omega);rw [zL]at ho;exact⟨_,rfl,ho.mono (by have:=g.o;omega),U.o.mono fun b hb _=>by have:=g.o;omega⟩
theorem q0z (w:World):Calls prog 69 #[] w fun e w'=> ∃T MX,e=.returned (pV T)/\TabAt w' T MX (.slice none 0 0) []/\w.heap.size<=T/\w.heap.size<=MX/\T≠MX/\wG w w':=by
 have b:= @run_makeMap prog
 go_enter Tryz.func69,Tryz.ntmps69
 go_wp2;go_ret;refine⟨w.heap.size+1,w.heap.size,rfl,⟨?_,zj _ _ _ _,?_⟩,wC,wC,wC,kAl.trans kAl⟩
 ·have h:=qh (w.alloc (.map #[] 0)) (.cells #[.slice none 0 0,.map (some w.heap.size)] 186)
  simpa using h
 ·exact(qh7 w).keep (Keep.alloc (fun _=>True) _ _) trivial
end Go.Proofs
namespace Go.Proofs
open Go.RowKit Go.Ink R4
attribute [local go_sem] Oper.semAt_some
inductive q00 where
 |box |tab |texts |nums |rels
 |rel (R:Nat) (T:Tag)
abbrev qdk:=Nat->Option (Nat×q00)
def qa6 (tag:qdk)(S R:Nat):qcg:=fun b=>match tag b with
 |some (S',.rel R' T)=>if S'=S/\R'=R then some T else none
 |_=>none
theorem qah {tag:qdk}{S R b:Nat}{T:Tag}:qa6 tag S R b=some T↔tag b=some (S,.rel R T):=by
 unfold qa6;constructor
 ·intro h;split at h
  ·rename_i S' R' T' ht;split at h
   ·rename_i hc;obtain⟨rfl,rfl⟩:=hc;cases h;exact ht
   ·cases h
  ·cases h
 ·intro h;rw [h];simp
def qem (k:ByteArray×Nat):Value:=.agg #[.string k.1,.int .i64 (k.2:Int)]
abbrev qiu (w:World)(b:Nat)(m:List ((ByteArray×Nat)×Nat)):Prop:=MapIn prog 122 qem qi w b m
def qe9 (T M n:Nat):List Value:= [.int .i32 0,.int .u32 0,.bool true,qi T,.map (some M),.int .i64 (n:Int)]
structure StParts (tag:qdk)(w:World)(S:Nat)(c:List qk)(T M MX:Nat)(vx:Value)(xs:List ByteArray)(rl:List ((ByteArray×Nat)×Nat)):Prop where
 tagS:tag S=some (S,.box)
 box:w.heap[S]?=some (.cells (qe9 T M c.length).toArray 120 (0,0))
 tagT:tag T=some (S,.tab)
 tab:w.heap[T]?=some (.cells #[vx,.map (some MX)] 186 (0,0))
 own:w.ownsRow 0 9 1 vx xs.length (xs.map .string)
 tagx: ∀b,vx.ownBlock=some b->tag b=some (S,.texts)
 tagN:tag MX=some (S,.nums)
 nums:qqj w MX xs.zipIdx
 tagM:tag M=some (S,.rels)
 rels:qiu w M rl
 rel: ∀k R,(k,R)∈rl-> ∃vD P K lm,qcl (qa6 tag S R) w R k.2 ((qv c k.1 k.2).map (qx xs)) vD P K lm
 inj:(rl.map (·.2)).Nodup
 all: ∀f,f∈c-> ∃R,((f.pred,f.tuple.length),R)∈rl
 texts: ∀f s,f∈c->s∈f.tuple->s∈xs
 nodup:c.Nodup
 few:c.length<=67108864
 xfew:xs.length<=16*c.length
def StoreAt (tag:qdk)(w:World)(S:Nat)(c:List qk):Prop:= ∃T M MX vx xs rl,StParts tag w S c T M MX vx xs rl
theorem StParts.keep {tag tag':qdk}{w w':World}{S:Nat}{c:List qk}{T M MX:Nat}{p:Value}{xs:List ByteArray}{m:List ((ByteArray×Nat)×Nat)}{C:Nat->Prop}(h:StParts tag w S c T M MX p xs m)(hK:Keep C w w')
  (g: ∀b U,tag b=some (S,U)->C b) (d: ∀b U,tag' b=some (S,U)↔tag b=some (S,U)):StParts tag' w' S c T M MX p xs m:=by
 have r: ∀R,qa6 tag' S R=qa6 tag S R:=fun R=>wB fun b=>by
  cases e:qa6 tag S R b with
  |some U=>exact qah.2 ((d b _).2 (qah.1 e))
  |none=>
   cases s:qa6 tag' S R b with
   |none=>rfl
   |some U=>
    have:=qah.2 ((d b _).1 (qah.1 s));rw [e]at this;cases this
 refine⟨(d _ _).2 h.tagS,hK.heap h.box (g _ _ h.tagS),(d _ _).2 h.tagT,hK.heap h.tab (g _ _ h.tagT),qf h.own hK (fun b l=>g b _ (h.tagx b l)),fun b l=>(d _ _).2 (h.tagx b l),(d _ _).2 h.tagN,h.nums.keep hK (g _ _ h.tagN),(d _ _).2 h.tagM,h.rels.keep hK (g _ _ h.tagM),fun k R t=>?_,h.inj,h.all,h.texts,h.nodup,h.few,h.xfew⟩;obtain⟨vD,P,K,lm,q⟩:=h.rel k R t;rw [r];exact⟨vD,P,K,lm,q.keep hK (fun b U l _=>g b _ (qah.1 l))⟩
theorem StoreAt.keep {tag tag':qdk}{w w':World}{S:Nat}{c:List qk}{C:Nat->Prop}(h:StoreAt tag w S c)(hK:Keep C w w')(l: ∀b U,tag b=some (S,U)->C b)(d: ∀b U,tag' b=some (S,U)↔tag b=some (S,U)):StoreAt tag' w' S c:=by
 obtain⟨T,M,MX,g,xs,e,h⟩:=h;exact⟨T,M,MX,g,xs,e,h.keep hK l d⟩
structure Gh where
 st:Nat->Option (List qk)
 tag:qdk
 held:Nat->Option Obj
def Gh.free (g:Gh)(b:Nat):Prop:=g.tag b=none/\g.held b=none
structure GInv (g:Gh)(w:World):Prop where
 store: ∀S c,g.st S=some c->StoreAt g.tag w S c
 own: ∀b S T,g.tag b=some (S,T)-> ∃c,g.st S=some c
 lt: ∀b T,g.tag b=some T->b<w.heap.size
 hold: ∀b o,g.held b=some o->w.heap[b]?=some o
 apart: ∀b o,g.held b=some o->g.tag b=none
 reln: ∀b S R U,g.tag b=some (S,.rel R U)->R<w.heap.size
structure GBd (g:Gh)(n:Nat)(g':Gh):Prop where
 more: ∀S c,g.st S=some c-> ∃d,g'.st S=some (c++d)
 new: ∀b,b<n->g.free b->g'.free b
 held: ∀b,b<n->g'.held b=g.held b
structure GStep (n0:Nat)(g:Gh)(X:World)(g':Gh)(Y:World):Prop where
 keep:Keep g.free X Y
 more: ∀S c,g.st S=some c-> ∃d,g'.st S=some (c++d)
 new: ∀b,b<X.heap.size->g.free b->g'.free b
 held: ∀b,b<n0->g'.held b=g.held b
 inv:GInv g' Y
theorem GBd.refl (g:Gh)(n:Nat):GBd g n g:=⟨fun S c h=>⟨[],by rw [h,yQ]⟩,fun _ _ h=>h,fun _ _=>rfl⟩
theorem GBd.mono {g c:Gh}{n n0:Nat}(h:GBd g n c)(e:n0<=n):GBd g n0 c:=⟨h.more,fun b d=>h.new b wC,fun b d=>h.held b wC⟩
theorem GBd.trans {g q l:Gh}{n p:Nat}(h:GBd g n q)(k:GBd q p l)(u:n<=p):GBd g n l:=by
 refine⟨fun S c r=>?_,fun b m t=>k.new b wC (h.new b m t),fun b m=>(k.held b wC).trans (h.held b m)⟩;obtain⟨d,hd⟩:=h.more S c r;obtain⟨e,s⟩:=k.more S _ hd;exact⟨d++e,by rw [s,yu]⟩
theorem GInv.keep {g:Gh}{X Y:World}(h:GInv g X)(hK:Keep (fun b=> ¬g.free b) X Y):GInv g Y:=by
 refine⟨fun S c l=>(h.store S c l).keep hK (fun b U d e=>by rw [e.1] at d;cases d) (fun _ _=>Iff.rfl),h.own,fun b T d=>zk (h.lt b T d) hK.size,fun b o d=>hK.heap (h.hold b o d) (fun e=>by rw [e.2] at d;cases d),h.apart,fun b S R U d=>zk (h.reln b S R U d) hK.size⟩
theorem GStep.mono {n0 n1:Nat}{g c:Gh}{X Y:World}(h:GStep n0 g X c Y)(d:n1<=n0):GStep n1 g X c Y:=⟨h.keep,h.more,h.new,fun b e=>h.held b wC,h.inv⟩
theorem GStep.refl {n0:Nat}{g:Gh}{X:World}(h:GInv g X):GStep n0 g X g X:=⟨Keep.refl _ _,(GBd.refl g 0).more,fun _ _ h=>h,fun _ _=>rfl,h⟩
theorem GStep.trans {n0:Nat}{g q p:Gh}{X Y Z:World}(h:GStep n0 g X q Y)(k:GStep n0 q Y p Z):GStep n0 g X p Z:=by
 have z:=h.keep.size;have r:Keep (fun b=>g.free b/\b<X.heap.size) X Y:=h.keep.mono fun b _ l=>l.1;have s:Keep (fun b=>g.free b/\b<X.heap.size) Y Z:=k.keep.mono fun b _ l=>h.new b l.2 l.1;refine⟨(r.trans s).mono fun b m l=>⟨l,m⟩,fun S c t=>?_,fun b m l=>k.new b wC (h.new b m l),fun b m=>(k.held b m).trans (h.held b m),k.inv⟩;obtain⟨d,hd⟩:=h.more S c t;obtain⟨e,u⟩:=k.more S _ hd;exact⟨d++e,by rw [u,yu]⟩
theorem GStep.own {n0:Nat}{g:Gh}{X Y:World}(h:GInv g X)(hK:wG X Y):GStep n0 g X g Y:=⟨hK.mt,(GBd.refl g 0).more,fun _ _ h=>h,fun _ _=>rfl,h.keep hK.mt⟩
def Gh.hold (g:Gh)(n:Nat)(Y:World):Gh:={g with held:=fun b=>if n<=b/\b<Y.heap.size/\g.tag b=none/\g.held b=none then Y.heap[b]? else g.held b}
theorem GInv.holds {g:Gh}{Y:World}(h:GInv g Y)(n:Nat):GInv (g.hold n Y) Y:=by
 refine⟨h.store,h.own,h.lt,fun b o c=>?_,fun b o c=>?_,h.reln⟩
 ·simp only [Gh.hold]at c;split at c
  ·exact c
  ·exact h.hold b o c
 ·simp only [Gh.hold]at c;split at c
  ·rename_i hc;exact hc.2.2.1
  ·exact h.apart b o c
theorem GStep.hold {n0:Nat}{g d:Gh}{X Y:World}(h:GStep n0 g X d Y)(l:n0<=X.heap.size):GStep n0 g X (d.hold X.heap.size Y) Y:=by
 refine⟨h.keep,h.more,fun b c e=>?_,fun b c=>?_,h.inv.holds _⟩
 ·have:=h.new b c e;refine⟨this.1,?_⟩;simp only [Gh.hold];rw [zF wC];exact this.2
 ·simp only [Gh.hold];rw [zF wC];exact h.held b c
def Gh.put (g:Gh)(k:Nat)(o:Obj):Gh:={g with held:=fun b=>if b=k then some o else g.held b}
theorem GStep.put {n0:Nat}{g:Gh}{X Y:World}(h:GInv g X){k:Nat}{o o':Obj}(l:g.held k=some o)(s:n0<=k)(hK:Keep (fun b=>b≠k) X Y)(ho:Y.heap[k]?=some o'):GStep n0 g X (g.put k o') Y:=by
 have p:=h.apart k o l;have q: ∀b U,g.tag b=some U->b≠k:=fun b U d e=>by subst e;rw [p] at d;cases d
 refine⟨hK.mono fun b _ m e=>(by subst e;rw [m.2] at l;cases l),(GBd.refl g 0).more,fun b d m=>⟨m.1,?_⟩,fun b d=>?_,?_⟩
 ·simp only [Gh.put];rw [zF (fun e=>by subst e;rw [m.2]at l;cases l)];exact m.2
 ·simp only [Gh.put];rw [zF wC]
 ·refine⟨fun S c r=>(h.store S c r).keep hK (fun b U d=>q b _ d) (fun _ _=>Iff.rfl),h.own,fun b T d=>zk (h.lt b T d) hK.size,fun b u d=>?_,fun b u d=>?_,fun b S R U d=>zk (h.reln b S R U d) hK.size⟩
  ·simp only [Gh.put]at d;split at d
   ·rename_i e;subst e;cases d;exact ho
   ·rename_i e;exact hK.heap (h.hold b u d) e
  ·simp only [Gh.put]at d;split at d
   ·rename_i e;subst e;exact p
   ·exact h.apart b u d
def qlp (n0:Nat):qgm Gh where
 inv:=GInv
 free:=Gh.free
 istep g X g' Y:=GStep n0 g X g' Y/\g'.st=g.st
 bstep:=GBd
 ifree h:=h.1.keep
 inew h:=h.1.new
 bnew h:=h.new
 bmono hn h:=h.mono hn
 invk h hK:=h.keep hK
def qb8 (tag:qdk)(S R:Nat)(rt:qcg):qdk:=fun b=>match rt b with
 |some T=>some (S,.rel R T)
 |none=>tag b
theorem qri {tag:qdk}{S R:Nat}{c:qcg}(d:TagLe (qa6 tag S R) c):qa6 (qb8 tag S R c) S R=c:=wB fun b=>by
 cases e:c b with
 |some T=>exact qah.2 (by unfold qb8;rw [e])
 |none=>
  cases g:qa6 (qb8 tag S R c) S R b with
  |none=>rfl
  |some T=>
   have h:=qah.1 g;unfold qb8 at h;rw [e]at h;rcases d b T (qah.2 h) with h1 |⟨_,_,_,_,_,h1,_⟩
   ·rw [e]at h1;cases h1
   ·rw [e]at h1;cases h1
theorem qf1 {tag:qdk}{S R:Nat}{g:qcg}{X:World}(d: ∀b T,tag b=some T->b<X.heap.size)(c:TagNew (qa6 tag S R) g X){b:Nat}{U:Nat×q00}(l: ∀T,U≠(S,.rel R T)):qb8 tag S R g b=some U↔tag b=some U:=by
 unfold qb8;cases e:g b with
 |none=>exact Iff.rfl
 |some T=>
  constructor
  ·intro h;cases h;exact absurd rfl (l T)
  ·intro h;exfalso;rcases c b T e with ⟨T',h1⟩ |h1
   ·have:=qah.1 h1;rw [h]at this;cases this;exact l T' rfl
   ·have:=d b _ h;omega
theorem qtm {tag:qdk}{S R d S':Nat}{m:qcg}{X:World}(g: ∀b T,tag b=some T->b<X.heap.size)(c:TagNew (qa6 tag S R) m X)(h:S'≠S∨d≠R):qa6 (qb8 tag S R m) S' d=qa6 tag S' d:=wB fun b=>by
 have l: ∀T p,((S',q00.rel d T):Nat×q00)≠(S,.rel R p):=fun T p e=>by cases e;rcases h with h |h<;>exact h rfl
 cases e:qa6 tag S' d b with
 |some U=>exact qah.2 ((qf1 g c (l U)).2 (qah.1 e))
 |none=>
  cases q:qa6 (qb8 tag S R m) S' d b with
  |none=>rfl
  |some U=>
   have:=qah.2 ((qf1 g c (l U)).1 (qah.1 q));rw [e]at this;cases this
theorem StParts.rel_at {tag:qdk}{w:World}{S:Nat}{c:List qk}{T M MX:Nat}{g:Value}{xs:List ByteArray}{b:List ((ByteArray×Nat)×Nat)}(h:StParts tag w S c T M MX g xs b){k:ByteArray×Nat}{R:Nat}(e:(k,R)∈b):tag R=some (S,.rel R .box):=by
 obtain⟨vD,P,K,lm,d⟩:=h.rel k R e;exact qah.1 d.tagB
theorem StParts.rel_step {tag:qdk}{X Y:World}{S:Nat}{c:List qk}{T M MX:Nat}{vx:Value}{xs:List ByteArray}{t:List ((ByteArray×Nat)×Nat)}(h:StParts tag X S c T M MX vx xs t)(s: ∀b U,tag b=some U->b<X.heap.size)
  {k:ByteArray×Nat} {R:Nat} (hk:(k,R)∈t) {r:qcg} (ab:TagLe (qa6 tag S R) r) (g:TagNew (qa6 tag S R) r X) (hK:Keep (fun b=>qa6 tag S R b=none) X Y)
  {vD:Value} {P K:Nat} {lm:List (List Bool×Nat)} (hR:qcl r Y R k.2 ((qv c k.1 k.2).map (qx xs)) vD P K lm):StParts (qb8 tag S R r) Y S c T M MX vx xs t:=by
 have m: ∀b V,tag b=some V->(∀U,V≠(S,.rel R U))->qa6 tag S R b=none:=fun b V d hV=>by
  cases e:qa6 tag S R b with
  |none=>rfl
  |some U=>exact absurd (yI (d.symm.trans (qah.1 e))) (hV U)
 have p: ∀b V,tag b=some V->(∀U,V≠(S,.rel R U))->qb8 tag S R r b=some V:=fun b V d hV=>(qf1 s g hV).2 d;refine⟨p _ _ h.tagS (fun U e=>by cases e),hK.heap h.box (m _ _ h.tagS (fun U e=>by cases e)),p _ _ h.tagT (fun U e=>by cases e),hK.heap h.tab (m _ _ h.tagT (fun U e=>by cases e)),qf h.own hK (fun b d=>m _ _ (h.tagx b d) (fun U e=>by cases e)),
  fun b d=>p _ _ (h.tagx b d) (fun U e=>by cases e),p _ _ h.tagN (fun U e=>by cases e),h.nums.keep hK (m _ _ h.tagN (fun U e=>by cases e)),p _ _ h.tagM (fun U e=>by cases e),h.rels.keep hK (m _ _ h.tagM (fun U e=>by cases e)),fun k' R' q=>?_,h.inj,h.all,h.texts,h.nodup,h.few,h.xfew⟩
 by_cases e:R'=R
 ·subst e;have:k'=k:=by
   obtain⟨i,hi⟩:=zy.1 q;obtain⟨j,u⟩:=zy.1 hk;have y:i=j:=by
    refine(xy (l:=t.map (·.2)) ?_ h.inj).1 ?_
    ·rw [zL];exact(zA.1 hi).1
    ·rw [zP,zP,hi,u];rfl
   subst y;rw [hi]at u;cases u
   rfl
  subst this;rw [qri ab];exact⟨vD,P,K,lm,hR⟩
 ·obtain⟨x,P',K',z,v⟩:=h.rel k' R' q;rw [qtm s g (.inr e)];exact⟨x,P',K',z,v.keep hK (fun b U d _=>m b _ (qah.1 d) (fun U' e'=>by cases e';exact e rfl))⟩
theorem q38 {n0:Nat}{g:Gh}{X Y:World}{S:Nat}{c:List qk}{T M MX:Nat}{vx:Value}{xs:List ByteArray}{x:List ((ByteArray×Nat)×Nat)}(p:GInv g X)(hS:g.st S=some c)(h:StParts g.tag X S c T M MX vx xs x)
  {k:ByteArray×Nat} {R:Nat} (hk:(k,R)∈x) {r:qcg} (z:TagLe (qa6 g.tag S R) r) (m:TagNew (qa6 g.tag S R) r X) (u: ∀b U,r b=some U->b<Y.heap.size) (hK:Keep (fun b=>qa6 g.tag S R b=none) X Y)
  {vD:Value} {P K:Nat} {lm:List (List Bool×Nat)} (hR:qcl r Y R k.2 ((qv c k.1 k.2).map (qx xs)) vD P K lm):GStep n0 g X {g with tag:=qb8 g.tag S R r} Y:=by
 have l: ∀b,g.tag b=none->qa6 g.tag S R b=none:=fun b d=>by
  cases e:qa6 g.tag S R b with
  |none=>rfl
  |some U=>have:=qah.1 e;rw [d] at this;cases this
 have q: ∀b,b<X.heap.size->g.tag b=none->qb8 g.tag S R r b=none:=fun b d ht=>by
  unfold qb8;cases e:r b with
  |none=>exact ht
  |some U=>
   rcases m b U e with ⟨U',h1⟩ |h1
   ·rw [l b ht]at h1;cases h1
   ·omega
 have s:=h.rel_step p.lt hk z m hK hR;refine⟨hK.mono fun b _ v=>l b v.1,(GBd.refl g 0).more,fun b d v=>⟨q b d v.1,v.2⟩,fun _ _=>rfl,?_⟩;refine⟨fun S' c' t=>?_,fun b S' U d=>?_,fun b U d=>?_,fun b o d=>hK.heap (p.hold b o d) (l b (p.apart b o d)),fun b o d=>q b (qe (p.hold b o d)) (p.apart b o d),fun b S' R' U d=>?_⟩
 ·by_cases e:S'=S
  ·subst e;have:c'=c:=by rw [hS] at t;cases t;rfl
   subst this;exact⟨T,M,MX,vx,xs,x,s⟩
  ·refine(p.store S' c' t).keep hK (fun b U d=>?_) (fun b U=>qf1 p.lt m (fun V y=>by cases y;exact e rfl));cases y:qa6 g.tag S R b with
   |none=>rfl
   |some V=>
    have:=qah.1 y;rw [d]at this;cases this;exact absurd rfl e
 ·simp only at d;unfold qb8 at d;cases e:r b with
  |none=>rw [e] at d;exact p.own b S' U d
  |some V=>rw [e] at d;cases d;exact⟨c,hS⟩
 ·simp only at d;unfold qb8 at d;cases e:r b with
  |none=>rw [e] at d;exact zk (p.lt b U d) hK.size
  |some V=>exact u b V e
 ·simp only at d;unfold qb8 at d;cases e:r b with
  |none=>rw [e] at d;exact zk (p.reln b S' R' U d) hK.size
  |some V=>rw [e] at d;cases d;exact zk (p.lt _ _ (h.rel_at hk)) hK.size
end Go.Proofs
namespace Go.Proofs
open Go.RowKit Go.Ink R4
theorem StParts.table {tag:qdk}{w:World}{S:Nat}{c:List qk}{T M MX:Nat}{b:Value}{xs:List ByteArray}{d:List ((ByteArray×Nat)×Nat)}(h:StParts tag w S c T M MX b xs d):TabAt w T MX b xs:=⟨h.tab,h.own,h.nums⟩
abbrev q85:Go.Conc.Locks.MuLink:={lock:=54,unlock:=55,ilock:=92,iunlock:=93,lockSlow:=129,unlockSlow:=132,disable:=125,enable:=127,acquire:=128,relMerge:=130,cas32:=126,add32:=131,tMutex:=114,tIMutex:=112,tPMutex:=167,tPIMutex:=219,tPI32:=221,tUP:=223,tNoCopy:=109,tU32:=110}
theorem qhs:Go.Conc.Locks.MuLib prog q85:=
 ⟨Tryz.func54,Tryz.func55,Tryz.func92,Tryz.func93,Tryz.func125,Tryz.func127,Tryz.func128,Tryz.func130,Tryz.func126,Tryz.func131,Tryz.underlying112,Tryz.runUnderlying112,Tryz.sizeOf112,Tryz.isAgg112,Tryz.zeroValue112,Tryz.underlying114,Tryz.runUnderlying114,Tryz.sizeOf114,Tryz.isAgg114,Tryz.zeroValue114,Tryz.underlying167,Tryz.runUnderlying167,Tryz.sizeOf167,Tryz.isAgg167,Tryz.zeroValue167,Tryz.underlying219,Tryz.runUnderlying219,Tryz.sizeOf219,Tryz.isAgg219,Tryz.zeroValue219,Tryz.underlying221,Tryz.runUnderlying221,Tryz.sizeOf221,Tryz.isAgg221,Tryz.zeroValue221,Tryz.underlying223,Tryz.runUnderlying223,Tryz.sizeOf223,Tryz.isAgg223,Tryz.zeroValue223,Tryz.underlying109,Tryz.runUnderlying109,Tryz.sizeOf109,Tryz.isAgg109,Tryz.zeroValue109,Tryz.underlying21,Tryz.runUnderlying21,Tryz.sizeOf21,Tryz.isAgg21,Tryz.zeroValue21,wD⟩
theorem qmk (w:World)(B o:Nat)(v:Value)(k:Nat):(w.setCell ⟨B,o,none⟩ v).heap[k]?=if k=B then (w.heap[k]?).map (fun x=>match x with |.cells c e f=>.cells (c.setIfInBounds o v) e f |x=>x) else w.heap[k]?:=by
 by_cases h:k=B
 ·subst h;rw [zI rfl];simp only [World.setCell,Option.isSome_none,zz,xA];rw [Array.getElem?_modify,zI rfl];cases w.heap[k]? with
  |none=>rfl
  |some x=>cases x<;>rfl
 ·rw [zF h];exact Below.heap_setCell _ _ _ _ h
theorem Keep.set_both {C:Nat->Prop}{w w':World}(h:Keep C w w')(B o:Nat)(v:Value):Keep C (w.setCell ⟨B,o,none⟩ v) (w'.setCell ⟨B,o,none⟩ v):=
 ⟨h.os,h.tape,h.output,by simpa using h.size,fun k b c=>by
  rw [qmk,qmk,h.block k (by simpa using b) c]⟩
theorem q77 {w:World}{B t:Nat}{c:List Value}{u v:Value}{d:Nat×Nat}(h:w.heap[B]?=some (.cells (u::c).toArray t d)):((w.setCell ⟨B,0,none⟩ v).setCell ⟨B,0,none⟩ u)=w:=by
 have g:=qe h;have: ∀k,((w.setCell ⟨B,0,none⟩ v).setCell ⟨B,0,none⟩ u).heap[k]?=w.heap[k]?:=fun k=>by
  rw [qmk,qmk];by_cases e:k=B
  ·subst e;rw [zI rfl,zI rfl,h];rfl
  ·rw [zF e,zF e]
 have b:((w.setCell ⟨B,0,none⟩ v).setCell ⟨B,0,none⟩ u).heap=w.heap:=Array.ext_getElem? this;show {w with heap:=((w.setCell ⟨B,0,none⟩ v).setCell ⟨B,0,none⟩ u).heap}=w;rw [b]
end Go.Proofs
namespace Go.Proofs
open Go.RowKit Go.Ink R4
attribute [local go_sem] Oper.semAt_some
theorem qjf: ∀a b:ByteArray×Nat,qem a=qem b->a=b:=fun a b h=>by
 unfold qem at h;obtain⟨c,e⟩:=a;obtain⟨d,g⟩:=b;simp only [Value.agg.injEq,Array.mk.injEq,List.cons.injEq,Value.string.injEq,Value.int.injEq,true_and,and_true,Int.natCast_inj]at h;obtain⟨rfl,rfl⟩:=h
 rfl
theorem qkk:WideMaps.KeyLaw prog 122:=deep_law (m:=4) wC wD wD (by simp only [Tryz.underlying122])
theorem qkl {k:ByteArray×Nat}(u:k.1.size<=1073741824)(t:k.2<=1073741824): ∃l,keyOf prog 122 (qem k)=some l:=by
 obtain⟨m,h⟩:=qmf;have b:prog.keyType 122=true:=wD
 have e:prog.cellsOf 122=2:=wD
 have p:prog.cellsOf 9=1:=wD
 have q:prog.cellsOf 3=1:=wD
 have s: ∀d,prog.keyLits (d+1) 9 [.string k.1]=some [.string k.1.data.toList]:=fun d=>by
  unfold Program.keyLits;simp only [Tryz.underlying9];rw [zI (by simp only [maxLen];omega)]
 have r: ∀d,prog.keyLits (d+1) 3 [.int .i64 (k.2:Int)]=some [.int .i64 (k.2:Int)]:=fun d=>by
  unfold Program.keyLits;simp only [Tryz.underlying3];have c:okI (k.2:Int):=by unfold okI;omega
  have g:(Lit.int .i64 (k.2:Int)).wf=true:=by
   simp only [Lit.wf,zV,zT];exact c
  simp only [g,and_self,yj]
 unfold keyOf qem;simp only [Tryz.underlying122];rw [zI (by simp [b,Value.formed,Tryz.underlying122,e,Value.cells,Value.oneCell']),h];rw [Program.keyLits.eq_def];simp only [Tryz.underlying122,e];simp [Value.cells,p,q,s,r]
end Go.Proofs
