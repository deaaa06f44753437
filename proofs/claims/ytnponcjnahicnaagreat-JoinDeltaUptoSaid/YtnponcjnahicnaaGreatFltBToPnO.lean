/- Parts of the proof. -/
import Derived.Test.YtnponcjnahicnaaGreatPnKToFlt
set_option linter.unusedSimpArgs false
set_option linter.unusedVariables false
set_option maxRecDepth 100000
set_option maxHeartbeats 1000000
open Go.Proofs.Tryz(prog)
open List(find?_cons foldlM_cons foldlM_nil getElem?_cons_succ)
namespace Go.Flt
open Ieee
def V (a:Nat):Nat:=mg a*2^sh a
theorem q89 {a:Nat}(h:0<a):0<V a:=Nat.mul_pos (by have:=qli h;omega) (qfz _)
theorem q8f:V 0=0:=wF
theorem q61 {a b:Nat}(d:a<9218868437227405312)(c:b<9218868437227405312)(h:V a<=V b):a<=b:=by
 have:=qjc (m1:=mg a) (m2:=mg b) (p1:= -1074+(sh a:Int)) (p2:= -1074+(sh b:Int)) (K:= -1074) wC wC (by
  rw [show(-1074+(sh a:Int)- -1074).toNat=sh a from wC,show(-1074+(sh b:Int)- -1074).toNat=sh b from wC];exact h)
 rwa [qnt d,qnt c] at this
theorem q4u {a b:Nat}(c:b<9218868437227405312)(h:a<b):V a<V b:=by
 rcases y7 (V a) (V b) with hl |hg
 ·exact hl
 ·have:=q61 c wC hg;omega
theorem q4v {a b:Nat}(c:b<9218868437227405312)(h:a<=b):V a<=V b:=by
 rcases y7 a b with hl |hg
 ·exact Nat.le_of_lt (q4u c hl)
 ·obtain rfl:a=b:=by omega
  exact zG _
theorem q62 (x y:Nat)(a b:Nat)(c:a<b->x<y)(e:b<a->y<x)(d:a=b->x=y):compare (x:Int) (y:Int)=compare a b:=by
 simp only [compare,compareOfLessAndEq];rcases Nat.lt_trichotomy a b with h |h |h
 ·rw [zI h,zI (by have:=c h;omega)]
 ·have:=d h;rw [zF (show ¬(x:Int)<y from wC),zI (show(x:Int)=y from wC),zF (show ¬a<b from wC),zI h]
 ·have:=e h;rw [zF (show ¬(x:Int)<y from wC),zF (show ¬(x:Int)=y from wC),zF (show ¬a<b from wC),zF (show ¬a=b from wC)]
theorem q6k (m i k:Nat):m*2^(i-k)*2^k=m*2^(i-k+k):=by rw [ye,←yr]
theorem qt6 {a b:Nat}(g:a<9218868437227405312)(e:b<9218868437227405312):D.order a b=some (compare a b):=by
 unfold Format.order;rw [qjx g,qjx e];unfold Datum.order signed;simp only [zz,xA,Nat.shiftLeft_eq];obtain⟨k,q⟩: ∃k,k=min (sh a) (sh b):=⟨_,rfl⟩;have m:(-1074+(sh a:Int)-min (-1074+(sh a:Int)) (-1074+(sh b:Int))).toNat=sh a-k:=wC
 have l:(-1074+(sh b:Int)-min (-1074+(sh a:Int)) (-1074+(sh b:Int))).toNat=sh b-k:=wC
 rw [m,l];have c:V a=mg a*2^(sh a-k)*2^k:=by rw [q6k];unfold V;rw [show sh a-k+k=sh a from wC]
 have d:V b=mg b*2^(sh b-k)*2^k:=by rw [q6k];unfold V;rw [show sh b-k+k=sh b from wC]
 have p:=qfz k;refine yO some (q62 _ _ _ _ (fun h=>?_) (fun h=>?_) (fun h=>?_))
 ·have:=q4u e h;rw [c,d]at this;exact Nat.lt_of_mul_lt_mul_right this
 ·have:=q4u g h;rw [c,d]at this;exact Nat.lt_of_mul_lt_mul_right this
 ·subst h;rfl
def qf9 (a b:Nat):Nat:=(D.mul a b).getD 0
def qia (a b:Nat):Nat:=(D.div a b).getD 0
def qgu (n:Int):Nat:=FloatKind.f64.nearest n
theorem qt7 {a b:Nat}(d:a<9218868437227405312)(c:b<9218868437227405312):D.mul a b=some (qh2 (mg a*mg b) (-1074+sh a+(-1074+sh b))):=by
 unfold Format.mul;rw [qjx d,qjx c]
 rfl
theorem q8g {a b:Nat}(d:a<9218868437227405312)(c:b<9218868437227405312):D.mul a b=some (qf9 a b):=by
 unfold qf9;rw [qt7 d c]
 rfl
theorem qm2 {a b:Nat}(d:a<9218868437227405312)(c:b<9218868437227405312):qf9 a b=qh2 (mg a*mg b) (-1074+sh a+(-1074+sh b)):=by
 unfold qf9;rw [qt7 d c]
 rfl
theorem q4w {a b:Nat}(d:a<9218868437227405312)(c:b<9218868437227405312):qf9 a b<=9218868437227405312:=by rw [qm2 d c];exact q5m _ _
theorem qr9 {a a' b:Nat}(d:a'<9218868437227405312)(c:b<9218868437227405312)(h:a<=a'):qf9 a b<=qf9 a' b:=by
 rw [qm2 wC c,qm2 d c];refine qjc (K:= -1074+(-1074+(sh b:Int))) wC wC ?_;rw [show(-1074+(sh a:Int)+(-1074+(sh b:Int))-(-1074+(-1074+(sh b:Int)))).toNat=sh a from wC,show(-1074+(sh a':Int)+(-1074+(sh b:Int))-(-1074+(-1074+(sh b:Int)))).toNat=sh a' from wC];rw [Nat.mul_right_comm,Nat.mul_right_comm (mg a')];exact yY _ (q4v d h)
theorem qqb {n:Int}(h:0<=n):qgu n=qh2 n.toNat 0:=by
 unfold qgu FloatKind.nearest FloatKind.encode FloatKind.format qh2 Format.write;rw [zM (show ¬n<0 from wC),show n.natAbs=n.toNat from wC]
theorem qm3 {n:Int}(h:0<=n)(b:n<=2147483647):qgu n<9218868437227405312:=by
 rw [qqb h];refine Nat.lt_of_le_of_lt (qjc (m2:=2147483647) (p2:=0) (K:=0) wC wC ?_) (show qh2 2147483647 0<_ from wF);simp;omega
theorem qsa {n:Int}(h:1<=n):4607182418800017408<=qgu n:=by
 rw [qqb wC];refine zW (show 4607182418800017408<=qh2 1 0 from wF) (qjc (m1:=1) (p1:=0) (K:=0) wC wC ?_);simp;omega
theorem qt8 {a b:Nat}(e:a<9218868437227405312)(c:b<9218868437227405312)(d:0<b):D.div a b=some (qh2 (2*(mg a*2^(54+(mg b).log2-(mg a).log2)/mg b)+(mg a*2^(54+(mg b).log2-(mg a).log2)%mg b !=0).toNat) (-1074+(sh a:Int)-(-1074+(sh b:Int))-((54+(mg b).log2-(mg a).log2:Nat):Int)-1)):=by
 unfold Format.div;rw [qjx e,qjx c];unfold Datum.quotient;simp only [qli d,xA,Nat.shiftLeft_eq]
 rfl
theorem q8h {a b:Nat}(e:a<9218868437227405312)(c:b<9218868437227405312)(d:0<b):D.div a b=some (qia a b):=by
 unfold qia;rw [qt8 e c d]
 rfl
theorem qsb {a b:Nat}(e:a<9218868437227405312)(c:b<9218868437227405312)(d:0<b):qia a b=qh2 (2*(mg a*2^(54+(mg b).log2-(mg a).log2)/mg b)+(mg a*2^(54+(mg b).log2-(mg a).log2)%mg b !=0).toNat) (-1074+(sh a:Int)-(-1074+(sh b:Int))-((54+(mg b).log2-(mg a).log2:Nat):Int)-1):=by
 unfold qia;rw [qt8 e c d]
 rfl
theorem q8i {N n T:Nat}(c:0<n)(h:2*N<=n*T):2*(N/n)+(N%n !=0).toNat<=T:=by
 have e:=Nat.div_add_mod N n;by_cases b:N%n=0
 ·rw [b]at e⊢;have:n*(2*(N/n))<=n*T:=by rw [Nat.mul_left_comm];omega
  have:=Nat.le_of_mul_le_mul_left this c
  simpa using this
 ·have:n*(2*(N/n))<n*T:=by rw [Nat.mul_left_comm];omega
  have:=Nat.lt_of_mul_lt_mul_left this;have d:(N%n !=0).toNat<=1:=by cases (N%n !=0)<;>simp
  omega
theorem qx0 {a b c:Nat}(x:a<9218868437227405312)(v:b<9218868437227405312)(R:c<9218868437227405312)(r:0<b)(u:Nat)(hu:u=1074)(h:V a*2^u<=V b*V c):qia a b<=c:=by
 by_cases q:a=0
 ·subst q;rw [qsb x v r];have:mg 0=0:=by decide
  rw [this];simp only [Nat.zero_mul,Nat.zero_div,Nat.zero_mod,Nat.mul_zero,bne_self_eq_false,Bool.toNat_false,Nat.add_zero,qns];exact yc _
 have t:=qli (a:=a) wC;have p:=qli r;have s:0<c:=by
  rcases Nat.eq_zero_or_pos c with l |l
  ·exfalso;rw [l,q8f,Nat.mul_zero]at h;have:=Nat.mul_pos (q89 (a:=a) wC) (qfz u);omega
  ·exact l
 have m:=qli s;have l:mg a*2^(sh a+u)<=(mg b*mg c)*2^(sh b+sh c):=by
  unfold V at h;have e:mg b*mg c*2^(sh b+sh c)=mg b*2^sh b*(mg c*2^sh c):=by
   rw [yr,ye,ye,Nat.mul_left_comm (mg c)]
  rw [e,yr,←ye];exact h
 have X:(mg a).log2+(sh a+u)<=(mg b).log2+(mg c).log2+1+(sh b+sh c):=by
  have U:=q2u t (Nat.mul_ne_zero p m) l;have:(mg b*mg c).log2<(mg b).log2+1+((mg c).log2+1):=by
   refine(Nat.log2_lt (Nat.mul_ne_zero p m)).2 ?_;rw [yr];exact Nat.mul_lt_mul_of_lt_of_le (qqs _) (Nat.le_of_lt (qqs _)) (qfz _)
  omega
 have la:=qu6 (a:=a);have Y:=qu6 (a:=c);rw [qsb x v r];obtain⟨more,g⟩: ∃k,54+(mg b).log2-(mg a).log2=k:=⟨_,rfl⟩;rw [g];have y: -1074+(sh a:Int)-(-1074+(sh b:Int))-(more:Int)-1<= -1074+(sh c:Int):=wC
 have:=qjc (m1:=2*(mg a*2^more/mg b)+(mg a*2^more%mg b !=0).toNat) (m2:=mg c) (p1:= -1074+(sh a:Int)-(-1074+(sh b:Int))-(more:Int)-1) (p2:= -1074+(sh c:Int)) (Int.le_refl _) y (by
  rw [Int.sub_self,Int.toNat_zero,Nat.pow_zero,yB];refine q8i wC ?_;have:=qpr (c:=more+1) (d:=(-1074+(sh c:Int)-(-1074+(sh a:Int)-(-1074+(sh b:Int))-(more:Int)-1)).toNat) l wC;have z:2*(mg a*2^more)=mg a*2^(more+1):=by rw [Nat.pow_succ,xN (2^more) 2,Nat.mul_left_comm]
  rw [z,←ye];exact this)
 rwa [qnt R] at this
theorem q9a (u:Nat)(d:u=1074):V 4607182418800017408=2^u:=by
 have b:mg 4607182418800017408=2^52:=wF
 have c:sh 4607182418800017408=1022:=wF
 unfold V;rw [b,←yr,show 52+sh 4607182418800017408=u from wC]
theorem qm4 {a b:Nat}(e:a<9218868437227405312)(d:b<9218868437227405312)(g:4607182418800017408<=b):qia a b<=a:=by
 obtain⟨u,c⟩: ∃u:Nat,u=1074:=⟨_,rfl⟩;refine qx0 e d e wC u c ?_;have:=q4v d g;rw [q9a u c]at this;rw [xN];exact yY _ this
def cap (a:Nat):Nat:=if a<=9094988921128908188 then a else 9094988921128908188
theorem q1m {a:Nat}(h:a<=9218868437227405312):D.order a 9094988921128908188=some (compare a 9094988921128908188):=by
 rcases y7 a 9218868437227405312 with hl |hg
 ·exact qt6 hl wF
 ·obtain rfl:a=9218868437227405312:=by omega
  decide
theorem q1n (a:Nat):cap a<=9094988921128908188:=by unfold cap;split<;>omega
def qqc (a:Nat):Nat:=qia (qf9 a 4621256167635550208) 4621819117588971520
theorem qt9 {a:Nat}(h:a<=9094988921128908188):qf9 a 4621256167635550208<9218868437227405312:=
 Nat.lt_of_le_of_lt (qr9 (a':=9094988921128908188) wF wF h) (by decide+kernel)
theorem q1o {a:Nat}(h:a<=9094988921128908188):qqc a<=9094988921128908188:=by
 obtain⟨u,l⟩: ∃u:Nat,u=1074:=⟨_,rfl⟩;refine qx0 (qt9 h) wF wF wF u l ?_;have g:=q4v (b:=qf9 9094988921128908188 4621256167635550208) (by decide+kernel) (qr9 (a':=9094988921128908188) (b:=4621256167635550208) wF wF h);refine zW (yY _ g) ?_;have m:mg (qf9 9094988921128908188 4621256167635550208)=7565482232153168:=by decide+kernel
 have r:sh (qf9 9094988921128908188 4621256167635550208)=2021:=by decide+kernel
 have e:mg 4621819117588971520=5629499534213120:=wF
 have s:sh 4621819117588971520=1025:=wF
 have p:mg 9094988921128908188=6724873095247260:=wF
 have q:sh 9094988921128908188=2018:=wF
 have:=qpr (m1:=7565482232153168) (m2:=5629499534213120*6724873095247260) (a:=52) (b:=0) (c:=sh (qf9 9094988921128908188 4621256167635550208)+u) (d:=sh 4621819117588971520+sh 9094988921128908188) (by decide+kernel) wC;unfold V;rw [m,e,p];rw [yr,←ye,yr,ye 5629499534213120,Nat.mul_left_comm 6724873095247260,←ye 5629499534213120]at this;exact this
theorem q63 {a:Nat}(h:a<=9094988921128908188):qia a 4611686018427387904<=a:=qm4 wC wF wF
end Go.Flt
namespace Go.Proofs.P16
open Go.RowKit Go.Ink Go.Flt
attribute [local go_sem] Oper.semAt_some
def qgv (sizes:List qap)(pred:ByteArray):qap:=(sizes.find? fun s=>decide (s.pred=pred)).getD ⟨⟨#[]⟩,0,[]⟩
def qga (z:qap)(n:Nat)(c:Int):Nat:=if c<z.dist.length/\0<z.dist.getD c.toNat 0 then qia n (qgu (z.dist.getD c.toNat 0)) else n
def qdf (ahead:Nat)(L:LitD)(bound:List Int)(sizes:List qap):Nat:=
 if L.kind=2 then qia ahead 4611686018427387904 else if L.kind=3 then qqc ahead
 else bound.foldl (qga (qgv sizes L.atom.pred)) (cap (qf9 ahead (qgu (qgv sizes L.atom.pred).rows)))
def qy5 (z:qap):Prop:=0<=z.rows/\z.rows<=2147483647/\ ∀c,c∈z.dist->0<=c/\c<=2147483647
theorem qy6 {l:List qap}(h:qb6 l=true): ∀z,z∈l->qy5 z:=by
 intro z e;unfold qb6 at h;rw [xL,xb]at h;have:=h z e;unfold qii at this;rw [xw,xH,xb]at this;obtain⟨b,g⟩:=this;unfold qh1 at b;rw [xH,yR,yR]at b;refine⟨wC,wC,fun c d=>?_⟩;have:=g c d;unfold qh1 at this;rw [xw,xH,yR,yR]at this;omega
theorem qua {l:List qap}(h:qb6 l=true)(b:ByteArray):qy5 (qgv l b):=by
 unfold qgv;cases c:l.find? fun s=>decide (s.pred=b) with
 |none=>exact⟨wF,wF,wE⟩
 |some z=>exact qy6 h z (xd c)
theorem q64 {z:qap}(l:qy5 z){n:Nat}(b:n<=9094988921128908188)(c:Int):qga z n c<=9094988921128908188:=by
 unfold qga;split
 ·rename_i h;obtain⟨m,e⟩:=h;have g:z.dist.getD c.toNat 0∈z.dist:=by
   by_cases d:c.toNat<z.dist.length
   ·rw [zJ,zB d];exact xG d
   ·rw [zJ,xD wC]at e;simp at e
  have p:=l.2.2 _ g;exact zW (qm4 wC (qm3 wC wC) (qsa wC)) b
 ·exact b
theorem qpc {z:qap}(d:qy5 z)(l:List Int){n:Nat}(b:n<=9094988921128908188):l.foldl (qga z) n<=9094988921128908188:=by
 induction l generalizing n with
 |nil=>exact b
 |cons c r ih=>exact ih (q64 d b c)
theorem qm5 {a:Nat}(c:a<=9094988921128908188)(L:LitD)(b:List Int){l:List qap}(d:qb6 l=true):qdf a L b l<=9094988921128908188:=by
 unfold qdf;split
 ·exact zW (q63 c) c
 ·split
  ·exact q1o c
  ·exact qpc (qua d _) _ (q1n _)
theorem qqd (z:qap)(n:Nat)(l:List Int){k:Nat}{c:Int}(h:l[k]?=some c):(l.take (k+1)).foldl (qga z) n=qga z ((l.take k).foldl (qga z) n) c:=by
 rw [zh,h,yn]
 rfl
theorem qor (ts:Array TypeId)(t:TypeId){x:Nat}(b:x<=9218868437227405312)(w:World):(Builtin.min_ ts t #[.float .f64 x,.float .f64 9094988921128908188]).run prog w=.ok (.float .f64 (cap x)) w:=by
 have ho:FloatKind.f64.format.order x 9094988921128908188=some (compare x 9094988921128908188):=q1m b;have e:compare x 9094988921128908188=if x<9094988921128908188 then .lt else if x=9094988921128908188 then .eq else .gt:=rfl
 simp only [Builtin.min_,Builtin.min2,foldlM_cons,foldlM_nil,ho,e];unfold cap;rcases Nat.lt_trichotomy x 9094988921128908188 with h |h |h
 ·rw [zI h,zI (show x<=9094988921128908188 from wC)];simp [yt,Sem.run_pure,Result.andThen]
 ·rw [zF (show ¬x<9094988921128908188 from wC),zI h,zI (show x<=9094988921128908188 from wC)];subst h;simp [yt,Sem.run_pure,Result.andThen]
 ·rw [zF (show ¬x<9094988921128908188 from wC),zF (show ¬x=9094988921128908188 from wC),zF (show ¬x<=9094988921128908188 from wC)];simp [yt,Sem.run_pure,Result.andThen]
theorem q4x (n:Int)(w:World):(convert 3 238 (.int .i64 n)).run prog w=.ok (.float .f64 (qgu n)) w:=run_convert_int_float (P:=prog) w 3 238 .i64 .f64 n wD wD
theorem qub {a b:Nat}(d:a<9218868437227405312)(c:b<9218868437227405312)(w:World):(binOp .mul 238 (.float .f64 a) (.float .f64 b)).run prog w=.ok (.float .f64 (qf9 a b)) w:=run_float_arith w .mul _ .f64 a b _ (q8g d c)
theorem qpd {a b:Nat}(e:a<9218868437227405312)(c:b<9218868437227405312)(d:0<b)(w:World):(binOp .quo 238 (.float .f64 a) (.float .f64 b)).run prog w=.ok (.float .f64 (qia a b)) w:=run_float_arith w .quo _ .f64 a b _ (q8h e c d)
theorem qws (b a:Nat)(c:a<=9094988921128908188)(w:World)(h:w.cell? ⟨b,0,none⟩=some (.float .f64 a)):Calls prog 176 #[.pointer (some ⟨b,0,none⟩)] w fun e w'=>e=.returned (.float .f64 (qia a 4611686018427387904))/\w'=w:=by
 have hd:=fun w=>qpd (a:=a) (b:=4611686018427387904) wC wF wF w;have d:=zQ w _ h;clear c
 go_enter Tryz.func176,Tryz.ntmps176
 go_wp2_with fail;go_ret;exact⟨rfl,rfl⟩
theorem qwt (b a:Nat)(c:a<=9094988921128908188)(w:World)(h:w.cell? ⟨b,0,none⟩=some (.float .f64 a)):Calls prog 177 #[.pointer (some ⟨b,0,none⟩)] w fun e w'=>e=.returned (.float .f64 (qqc a))/\w'=w:=by
 have d:=fun w=>qub (a:=a) (b:=4621256167635550208) wC wF w;have hd:=fun w=>qpd (a:=qf9 a 4621256167635550208) (b:=4621819117588971520) (qt9 c) wF wF w;have g:=zQ w _ h;clear c
 go_enter Tryz.func177,Tryz.ntmps177
 go_wp2_with fail;go_ret;exact⟨rfl,rfl⟩
theorem quc (b:Nat)(s:qap)(t:Value)(d:ByteArray)(n:Nat)(w:World)(u:qat n w t s.dist)(h:w.cell? ⟨b,1,none⟩=some (.string d)):Calls prog 175 #[ql7 s t,.pointer (some ⟨b,0,none⟩)] w fun e w'=>e=.returned (.bool (decide (s.pred=d)))/\Keep (fun b=>b<w.heap.size) w w':=by
 obtain⟨p,rows,r⟩:=s;obtain⟨a,c,rfl,-,-,-⟩:=u;unfold ql7;simp only;have v:=zQ w _ h;by_cases m:p=d
 ·have q:decide (p=d)=true:=zS m;have g:=qig m;clear m;refine hd1 ?_ q;clear q;intro l
  go_enter Tryz.func175,Tryz.ntmps175
  go_wp2_with fail;go_ret;exact⟨by rw [l.o];first |rfl |simp [g],kAl⟩
 ·have q:decide (p=d)=false:=zM m;have g:=qgp m;clear m;refine hd1 ?_ q;clear q;intro l
  go_enter Tryz.func175,Tryz.ntmps175
  go_wp2_with fail;go_ret;exact⟨by rw [l.o];first |rfl |simp [g],kAl⟩
theorem q1p {l:List qap}{b:ByteArray}(h:qch (fun s:qap=>decide (s.pred=b)) l<0):qgv l b=⟨⟨#[]⟩,0,[]⟩:=by
 have c:=qf6 (fun s:qap=>decide (s.pred=b)) l;rw [zM wC]at c;unfold qgv;rw [yp.2 (fun s d=>by have:=xb.1 c.symm s d;exact this)]
 rfl
theorem q1q {l:List qap}{b:ByteArray}(h: ¬qch (fun s:qap=>decide (s.pred=b)) l<0): ∃k:Nat,qch (fun s:qap=>decide (s.pred=b)) l=(k:Int)/\k<l.length/\l[k]?=some (qgv l b):=by
 induction l with
 |nil=>simp [qch] at h
 |cons s r ih=>
  have e:qch (fun s:qap=>decide (s.pred=b)) (s::r)=if decide (s.pred=b)=true then 0 else (if qch (fun s:qap=>decide (s.pred=b)) r<0 then-1 else qch (fun s:qap=>decide (s.pred=b)) r+1):=rfl
  rw [e]at h⊢;by_cases c:decide (s.pred=b)=true
  ·rw [zI c];refine⟨0,rfl,wE,?_⟩;unfold qgv;rw [find?_cons,c]
   rfl
  ·rw [zF c]at h⊢;by_cases d:qch (fun s:qap=>decide (s.pred=b)) r<0
   ·rw [zI d]at h;omega
   ·rw [zF d];obtain⟨k,g,p,m⟩:=ih d;refine⟨k+1,by rw [g];rfl,by simp;omega,?_⟩;rw [getElem?_cons_succ,m];unfold qgv;rw [xw]at c;rw [find?_cons,c]
theorem qwu (n b7 b5 b4 b6:Nat)(a:Nat)(ha:a<=9094988921128908188)(sizes:List qap)(sv:Value)(m:ByteArray)(bound:List Int)(bv:Value)(hu:qb6 sizes=true)(ax: ∀c,c∈bound->0<=c)(w:World)
  (hs:SizesIn n w sv sizes) (hb:qat n w bv bound) (hn:n<=w.heap.size)
  (c7:w.cell? ⟨b7,0,none⟩=some sv) (c5:w.cell? ⟨b5,1,none⟩=some (.string m)) (c4:w.cell? ⟨b4,0,none⟩=some (.float .f64 a)) (c6:w.cell? ⟨b6,1,none⟩=some bv):
  Calls prog 173 #[.pointer (some ⟨b7,0,none⟩),.pointer (some ⟨b5,0,none⟩),.pointer (some ⟨b4,0,none⟩),.pointer (some ⟨b6,0,none⟩)] w
   fun e w'=>e=.returned (.float .f64 (bound.foldl (qga (qgv sizes m)) (cap (qf9 a (qgu (qgv sizes m).rows)))))/\Keep (fun b=>b<w.heap.size) w w':=by
 have l7:=zQ w _ c7;have l5:=zQ w _ c5;have l4:=zQ w _ c4;have l6:=zQ w _ c6;simp only at l7 l5 l4 l6;obtain⟨W0,al⟩:=ex (w.alloc (.cells #[.string ⟨#[]⟩,.int .i64 0,.slice none 0 0] 204));have k0:wG w W0:=by rw [←al];exact kAl
 have z0:W0.heap.size=w.heap.size+1:=by rw [←al];simp
 have aL:=qnq (gf:=175) (bs:= #[]) (lb:= #[.pointer (some ⟨b5,0,none⟩)]) (qdg Tryz.func175 wD rfl) (fun s:qap=>decide (s.pred=m)) n sv sizes W0 (hs.keep k0.mt) wC
  (fun x _ W2 hK bp aY=>quc b5 x bp m n W2 aY (hK.cell (k0.cell c5 wH) (show b5<W0.heap.size from wC)))
 have hz:=qua hu m;have t:= @q1p sizes m;have u:= @q1q sizes m;obtain⟨z,ar⟩:=ex (qgv sizes m);rw [ar]at hz t u;rw [ar];obtain⟨ix,ag⟩: ∃i,qch (fun s:qap=>decide (s.pred=m)) sizes=i:=⟨_,rfl⟩;rw [ag]at aL t u;have a9:=fun x (hx:x<=9218868437227405312) w=>qor #[238,238] 238 hx w;have bn:=fun n w=>q4x n w;have hr:=qm3 hz.1 hz.2.1;have aX:=fun w=>qub (a:=a) (b:=qgu z.rows) wC hr w;have hm:=q4w (a:=a) (b:=qgu z.rows) wC hr;have aT:=fun w=>qor #[238,238] 238 hm w;obtain⟨a7,cN,rfl,cA,cS,aS⟩:=id hs;obtain⟨ab,cu,rfl,cF,cT,aR⟩:=id hb;have bx:=qh w (.cells #[.string ⟨#[]⟩,.int .i64 0,.slice none 0 0] 204);rw [al]at bx;obtain⟨X,hX⟩:=ex (w.heap.size);rw [hX]at bx z0 l7 l5 l4 l6 hn;clear hs hb;have cH:b7<w.heap.size:=wC
 have cy:b5<w.heap.size:=wC
 have cL:b4<w.heap.size:=wC
 have cB:b6<w.heap.size:=wC
 refine qm6 ?_ aL t u aS aR ar ag hz ax al bx k0 hX;clear aL t u aS aR ar ag hz ax al bx k0 hX;intro a1 aq au aU ay cp cb aG aj aZ bL a4 ak
 go_enter Tryz.func173,Tryz.ntmps173
 go_wp2_with fail;rw [aZ.o,ak.o];refine a1.o.mono ?_;rintro e W1 ⟨rfl,k1⟩;have cG:=k1.size;have bG:wG w W0:=a4.o;have q:=k1.heap bL.o wC;have kk:Keep (fun b=>b<X) w W1:=a4.o.mt.trans (k1.mono fun b hb h=>wC);have f7:=kk.cell c7 l7;have f4:=kk.cell c4 l4;have f6:=kk.cell c6 l6;have x0:=qb q 0 _ rfl;have x1:=qb q 1 _ rfl;have x2:=qb q 2 _ rfl;have y0:=qg q 0;have y1:=qg q 1;have y2:=qg q 2;simp only [zD]at x0 x1 x2;have bc:X<W1.heap.size:=wC
 have aC:b7<W1.heap.size:=wC
 have aB:b4<W1.heap.size:=wC
 have aA:b6<W1.heap.size:=wC
 clear c7 c5 c4 c6 k1 bG;obtain⟨s0,aa⟩:=ex (cap (qf9 a (qgu z.rows)));have az:s0<=9094988921128908188:=by rw [←aa];exact q1n _
 simp only [aa]at aT⊢;have b2: ∀(W:World),True:=fun _=>trivial;clear b2 a9;by_cases bf:ix<0
 ·have ao:=aq.o bf;have cc: ¬ix≥0:=by omega
  have am:z.rows=0:=by rw [ao]
  have Y:z.dist= []:=by rw [ao]
  rw [am]at aX aT;have ba:W1.heap[X]?=some (.cells #[.string z.pred,.int .i64 z.rows,.slice none z.dist.length 0] 204 (0,0)):=by rw [q,ao];rfl
  have af: ∀(k:Nat) (x:Int),z.dist[k]?=some x-> ∃b off,(none:Option Addr)=some ⟨b,off,none⟩/\b<n/\qgc w b (off+k*1) x:=fun k x h=>by rw [Y] at h;simp at h
  clear ao;refine hd7 ?_ q ba kk am Y af aa;clear q ba kk am Y af aa;intro aD aP aK bw bj ai ae;go_wp2_with fail;refine qk9 (fun W=>Keep (fun b=>b<X) w W/\W.heap[X]?=some (.cells #[.string z.pred,.int .i64 z.rows,.slice none z.dist.length 0] 204 (0,0))) ⟨aK.o,aP.o⟩ ?_;clear x0 x1 x2 y0 y1 y2 f7 f4 f6 bc aC aB aA;rintro W2 ⟨ad,U⟩;have bq:X<W2.heap.size:=qe U;have ah:w.heap.size=X:=ak.o;have x2:=qb U 2 _ rfl;simp only [zD]at x2;clear ah U;refine hd1 ?_ ad;clear ad;intro r
  go_loopw [7,28] (fun x7 i' wr=> ∃k:Nat,k<=bound.length/\i'=.int .i64 (k:Int)/\x7=.float .f64 ((bound.take k).foldl (qga z) s0)/\wr=W2) (fun _ i _=>bound.length-(intOf i).toNat)
  case atStart=>exact⟨0,wC,rfl,rfl,rfl⟩
  case round=>
   obtain⟨k,hk,rfl,rfl,hw⟩:=hrel;have hw:=hw.symm;subst hw;by_cases aM:k<bound.length
   ·have a6:(k:Int)<bound.length:=by omega
    have br:(0:Int)<=k:=wC
    obtain⟨c,hc⟩: ∃x,bound[k]?=some x:=⟨_,zB aM⟩;obtain⟨b9,o9,rfl,bU,q0⟩:=ay.o k c hc;unfold qgc at q0;simp only [yB]at q0;have f0:=r.o.cell q0 (show b9<X from wC);have a2:b9<W2.heap.size:=wC
    have l:=qqd z s0 bound hc;have bP:=aj.o c (zH hc);have aN:=qpc aG.o (bound.take k) az;obtain⟨v,hv⟩:=ex ((bound.take k).foldl (qga z) s0);rw [hv]at aN l⊢;clear q0 hc hv;by_cases R:c<z.dist.length
    ·obtain⟨d,hd⟩: ∃d,z.dist[c.toNat]?=some d:=⟨_,zB wC⟩;obtain⟨aE,bo,aI,aW,r0⟩:=ai.o c.toNat d hd;cases aI
    ·have y:qga z v c=v:=by
      unfold qga;exact zF (fun h=>R h.1)
     rw [y]at l;clear y;refine hd1 ?_ l;clear l;intro p;go_wp2_with fail;go_roundw
     case rel=>exact⟨k+1,wC,by go_num,by rw [p.o],by trivial⟩
     case measure=>simp [intOf];omega
   ·obtain rfl:k=bound.length:=by omega
    rw [zi];go_wp2_with fail;go_ret;have ah:w.heap.size=X:=ak.o;exact⟨by rw [ae.o];rfl,r.o.mono fun b _ h=>wC⟩
 ·obtain⟨j,bJ,cK,a0⟩:=au.o wC;subst bJ;have cc:(j:Int)≥0:=by omega
  have cM:(j:Int)<sizes.length:=wC
  obtain⟨b8,o8,rfl,cz,zv,R,bF⟩:=aU.o j z a0;obtain⟨zd,zc,rfl,cJ,cD,af⟩:=bF;have g: ∀i v,[Value.string z.pred,.int .i64 z.rows,.slice zd z.dist.length zc][i]?=some v->W1.cell? ⟨b8,o8+j*3+i,none⟩=some v:=fun i v h=>kk.cell (R i v h) (show b8<X from wC);have d0:=g 0 _ rfl;have d1:=g 1 _ rfl;have d2:=g 2 _ rfl;simp only [Nat.add_zero]at d0;have a8:b8<W1.heap.size:=wC
  clear g R a0;refine hd4 ?_ q kk af aa;clear q kk af aa;intro aD aK ai ae;go_wp2_with fail;refine qk9 (fun W=>Keep (fun b=>b<X) w W/\W.heap[X]?=some (.cells #[.string z.pred,.int .i64 z.rows,.slice zd z.dist.length zc] 204 (0,0))) ⟨aK.o.trans (((kSc).trans (kSc)).trans (kSc)),by
   have h1:=qag 0 (.string z.pred) aD.o;have h2:=qag 1 (.int .i64 z.rows) h1;have h3:=qag 2 (.slice zd z.dist.length zc) h2;exact h3⟩ ?_
  clear x0 x1 x2 y0 y1 y2 f7 f4 f6 bc aC aB aA d0 d1 d2 a8;rintro W2 ⟨ad,U⟩;have bq:X<W2.heap.size:=qe U;have ah:w.heap.size=X:=ak.o;have x2:=qb U 2 _ rfl;simp only [zD]at x2;clear ah U;refine hd1 ?_ ad;clear ad;intro r
  go_loopw [7,28] (fun x7 i' wr=> ∃k:Nat,k<=bound.length/\i'=.int .i64 (k:Int)/\x7=.float .f64 ((bound.take k).foldl (qga z) s0)/\wr=W2) (fun _ i _=>bound.length-(intOf i).toNat)
  case atStart=>exact⟨0,wC,rfl,rfl,rfl⟩
  case round=>
   obtain⟨k,hk,rfl,rfl,hw⟩:=hrel;have hw:=hw.symm;subst hw;by_cases aM:k<bound.length
   ·have a6:(k:Int)<bound.length:=by omega
    have br:(0:Int)<=k:=wC
    obtain⟨c,hc⟩: ∃x,bound[k]?=some x:=⟨_,zB aM⟩;obtain⟨b9,o9,rfl,bU,q0⟩:=ay.o k c hc;unfold qgc at q0;simp only [yB]at q0;have f0:=r.o.cell q0 (show b9<X from wC);have a2:b9<W2.heap.size:=wC
    have l:=qqd z s0 bound hc;have bP:=aj.o c (zH hc);have aN:=qpc aG.o (bound.take k) az;obtain⟨v,hv⟩:=ex ((bound.take k).foldl (qga z) s0);rw [hv]at aN l⊢;clear q0 hc hv;by_cases R:c<z.dist.length
    ·obtain⟨d,hd⟩: ∃d,z.dist[c.toNat]?=some d:=⟨_,zB wC⟩;obtain⟨aE,bo,aI,aW,r0⟩:=ai.o c.toNat d hd;subst aI;unfold qgc at r0;simp only [yB]at r0;have f1:=r.o.cell r0 (show aE<X from wC);have ca:aE<W2.heap.size:=by omega
     have bd:z.dist.getD c.toNat 0=d:=by rw [zJ,hd];rfl
     have cs:=aG.o.2.2 d (zH hd);have y:qga z v c=if 0<d then qia v (qgu d) else v:=by
      unfold qga;rw [bd];by_cases h:0<d
      ·rw [zI ⟨R,h⟩,zI h]
      ·rw [zF (fun x=>h x.2),zF h]
     rw [y]at l;clear hd bd r0 y;by_cases aQ:0<d
     ·rw [zI aQ]at l;have cn:=fun w=>qpd (a:=v) (b:=qgu d) wC (qm3 wC wC) (by have:=qsa (n:=d) wC;omega) w;refine hd1 ?_ l;clear l;intro p;go_wp2_with fail;go_roundw
      case rel=>exact⟨k+1,wC,by go_num,by rw [p.o],by trivial⟩
      case measure=>simp [intOf];omega
     ·rw [zF aQ]at l;refine hd1 ?_ l;clear l;intro p;go_wp2_with fail;go_roundw
      case rel=>exact⟨k+1,wC,by go_num,by rw [p.o],by trivial⟩
      case measure=>simp [intOf];omega
    ·have y:qga z v c=v:=by
      unfold qga;exact zF (fun h=>R h.1)
     rw [y]at l;clear y;refine hd1 ?_ l;clear l;intro p;go_wp2_with fail;go_roundw
     case rel=>exact⟨k+1,wC,by go_num,by rw [p.o],by trivial⟩
     case measure=>simp [intOf];omega
   ·obtain rfl:k=bound.length:=by omega
    rw [zi];go_wp2_with fail;go_ret;have ah:w.heap.size=X:=ak.o;exact⟨by rw [ae.o];rfl,r.o.mono fun b _ h=>wC⟩
theorem q8j (c e d:Fn)(b h g:Array Value)(w:World):(Instr.index 257 (.agg #[.func c #[] b,.func e #[] h,.func d #[] g]) (.int .i64 0)).run prog w=.ok (.func c #[] b) w:=wD
theorem q8k (h b d:Fn)(g c e:Array Value)(w:World):(Instr.index 257 (.agg #[.func h #[] g,.func b #[] c,.func d #[] e]) (.int .i64 1)).run prog w=.ok (.func b #[] c) w:=wD
theorem q8l (g d b:Fn)(e h c:Array Value)(w:World):(Instr.index 257 (.agg #[.func g #[] e,.func d #[] h,.func b #[] c]) (.int .i64 2)).run prog w=.ok (.func b #[] c) w:=wD
theorem qqe (n:Nat)(a:Nat)(ha:a<=9094988921128908188)(L:LitD)(sa:Value)(s:qds)(U nv:Value)(sizes:List qap)(u:Value)(hu:qb6 sizes=true)(l: ∀c,c∈s.bound->0<=c)(hk:L.kind=1∨L.kind=2∨L.kind=3)(w:World)
  (al: ∃x m c,sa=.slice x m c) (an: ∃x m c,nv=.slice x m c) (hs:SizesIn n w u sizes) (Y:qat n w U s.bound) (hn:n<=w.heap.size):
  Calls prog 148 #[.float .f64 a,qew L sa,qks s U nv,u] w fun e w'=>e=.returned (.float .f64 (qdf a L s.bound sizes))/\Keep (fun b=>b<w.heap.size) w w':=by
 obtain⟨W0,d⟩:=ex ((((w.alloc (.cells #[.float .f64 a] 238)).alloc (.cells #[.int .i64 L.kind,.string L.atom.pred,sa,.bool L.left.var,.string L.left.text,.bool L.right.var,.string L.right.text] 64)).alloc (.cells #[.int .i64 s.lit,U,nv] 211)).alloc (.cells #[u] 202));have k0:wG w W0:=by rw [←d];exact((kAl.trans kAl).trans kAl).trans kAl
 have z0:W0.heap.size=w.heap.size+1+1+1+1:=by rw [←d];simp
 have g1:W0.heap[w.heap.size]?=some (.cells #[.float .f64 a] 238 (0,0)):=by rw [←d];simp only [qao,zO];rw [zF wC,zF wC,zF wC,zI trivial]
 have g2:W0.heap[w.heap.size+1]?=some (.cells #[.int .i64 L.kind,.string L.atom.pred,sa,.bool L.left.var,.string L.left.text,.bool L.right.var,.string L.right.text] 64 (0,0)):=by rw [←d];simp only [qao,zO];simp
 have g3:W0.heap[w.heap.size+1+1]?=some (.cells #[.int .i64 s.lit,U,nv] 211 (0,0)):=by rw [←d];simp only [qao,zO];simp
 have g4:W0.heap[w.heap.size+1+1+1]?=some (.cells #[u] 202 (0,0)):=by rw [←d];simp only [qao,zO];simp
 have t:=qb g1 0 _ rfl;have c5:=qb g2 1 _ rfl;have c6:=qb g3 1 _ rfl;have c7:=qb g4 0 _ rfl;simp only [zD]at t c5 c6 c7;have h1:=qwu n (w.heap.size+1+1+1) (w.heap.size+1) w.heap.size (w.heap.size+1+1) a ha sizes u L.atom.pred s.bound U hu l W0 (hs.keep k0.mt) (qjb Y k0.mt) wC c7 c5 t c6;have h2:=qws w.heap.size a ha W0 t;have h3:=qwt w.heap.size a ha W0 t;have e1:L.kind=1->qdf a L s.bound sizes=s.bound.foldl (qga (qgv sizes L.atom.pred)) (cap (qf9 a (qgu (qgv sizes L.atom.pred).rows))):=fun h=>by unfold qdf;rw [zF wC,zF wC]
 have e2:L.kind=2->qdf a L s.bound sizes=qia a 4611686018427387904:=fun h=>by unfold qdf;rw [zI h]
 have e3:L.kind=3->qdf a L s.bound sizes=qqc a:=fun h=>by unfold qdf;rw [zF wC,zI h]
 obtain⟨aN,aI,rfl,-,-,-⟩:=id hs;obtain⟨aJ,aD,rfl,-,-,-⟩:=id Y;obtain⟨aE,aM,aB,rfl⟩:=al;obtain⟨aK,aH,aF,rfl⟩:=an;obtain⟨kd,⟨pr,args⟩,⟨lv,lt⟩,⟨rv,rt⟩⟩:=L;obtain⟨si,sb,sn⟩:=s;unfold qew qks;simp only at*;clear hs Y g1 g2 g3 g4 t c5 c6 c7 l;refine hd8 ?_ h1 h2 h3 e1 e2 e3 k0 d;clear h1 h2 h3 e1 e2 e3 k0 d;intro ao ab am ah ad aj q g;have t0:=fun X z v R r y w=>q8j X z v R r y w;have t1:=fun X z v R r y w=>q8k X z v R r y w;have t2:=fun X z v R r y w=>q8l X z v R r y w;rcases hk with rfl |rfl |rfl
 ·go_enter Tryz.func148,Tryz.ntmps148
  go_wp2_with fail;rw [g.o];refine ao.o.mono ?_;rintro e W1 ⟨rfl,k1⟩;go_wp2_with fail;go_ret;exact⟨by rw [ah.o (by trivial)];rfl,q.o.mt.trans (k1.mono fun b Y _=>wC)⟩
 ·go_enter Tryz.func148,Tryz.ntmps148
  go_wp2_with fail;rw [g.o];refine ab.o.mono ?_;rintro e W1 ⟨rfl,p⟩;subst p;go_wp2_with fail;go_ret;exact⟨by rw [ad.o (by trivial)];rfl,q.o.mt⟩
 ·go_enter Tryz.func148,Tryz.ntmps148
  go_wp2_with fail;rw [g.o];refine am.o.mono ?_;rintro e W1 ⟨rfl,p⟩;subst p;go_wp2_with fail;go_ret;exact⟨by rw [aj.o (by trivial)];rfl,q.o.mt⟩
end Go.Proofs.P16
