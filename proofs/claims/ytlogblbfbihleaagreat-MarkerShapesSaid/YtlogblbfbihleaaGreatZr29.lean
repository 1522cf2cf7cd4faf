/- Lean texts of the claim. -/
import Derived.Test.YtlogblbfbihleaaGreatZr28
namespace Go.Proofs.YtlogblbfbihleaaGreat
set_option linter.all false
set_option maxRecDepth 100000
set_option maxHeartbeats 0
open Go.RowKit
variable{a:World}{b j:Nat}{e:TypeId}{f k l m o:Value}{g:Array Value}{h:Int}{i:List Int}{n:Rat}
section
open Go.RowKit Limb
theorem Anz(n:Int) (w:World) (r : -4611686018427387904<=n) (s:n<=4611686018427387904):Calls Tryz.prog 219 #[n] w (Xi w (n:Rat)):=by
 let⟨z,i⟩:=gN ((n:Rat):Rat)
 have o:=Ar i;rw[i];clear i;go_in;go_upto_region 1 with fail;refine Bq λX h j=>?_
 go_upto_region 2 with (go_at_call 274;refine(kof n _ r s).mono ?_;rintro e N ⟨M,rfl,g,c⟩;rw[o.out]at g;obtain⟨I,B,rfl,f,d⟩:=g;obtain⟨k,u,p,rfl⟩:=f.sl;obtain⟨l,x,q,rfl⟩:=d.sl)
 refine Bq λY a t=>?_
 have b:=j.keep (An c a);obtain⟨F,G,H,-⟩:=t.triple;let⟨J,K,L,C,D,E,lt⟩:=b.triple;go_wp2;let⟨y,A,s2,m⟩:=Dn (w:=w) b (f.keep a) (d.keep a) j.lt (Nat.le_refl _) (An h (An c a));exact bR m rfl (by simp[results,Tryz.results219,go_sem,y,A,s2])
theorem Apf(x y:Int) (w:World) (l : -4611686018427387904<=x) (m:x<=4611686018427387904) (H : -4611686018427387904<=y) (I:y<=4611686018427387904):Calls Tryz.prog 169 #[x,y] w (Aei w (x:Rat) (y:Rat)):=by
 let⟨T,d⟩:=gN ((x:Rat):Rat)
 let⟨U,f⟩:=gN ((y:Rat):Rat)
 have u:=Ar d;have A:=Ar f;rw[d,f];clear d f;go_in;go_upto_region 1 with fail;refine Bq λX o n=>?_
 have p:=n.lt
 go_wp2_with (first
  | (go_at_call 219;have J:=b;refine(Anz y _ H I).mono ?_;rintro e w2 ⟨v2,rfl,m,c⟩;rw[A.out]at m;obtain⟨m2,W,rfl,j,h⟩:=m;obtain⟨s,N,E,rfl⟩:=j.sl;obtain⟨t,n4,F,rfl⟩:=h.sl;have a:=An b c;let⟨r0,r1,r2,r3,r4,r5⟩:=cells6 (n.keep a);let⟨Y,Z,f2,f3,f4,f5,G⟩:=fq (n.keep a))
  | (go_at_call 219;refine(Anz x _ l m).mono ?_;rintro e w1 ⟨v1,rfl,l,b⟩;rw[u.out]at l;obtain⟨m1,V,rfl,i,g⟩:=l;obtain⟨q,L,C,rfl⟩:=i.sl;obtain⟨r,M,D,rfl⟩:=g.sl))
 have k:=b.size;let⟨K,B⟩:=K8 (w:=w) (n.keep a) ⟨_,_,rfl,i.keep c,g.keep c⟩ ⟨_,_,rfl,j.lower k,h.lower k⟩ p (by omega) (An o a) _ rfl;let⟨O,P,s2,Q,R,S⟩:=cells6 K;exact bR B rfl (by simp[results,Tryz.results169,go_sem,O,P,s2,Q,R,S])
end
section
open Go.RowKit Limb
theorem Ajt{w:World}    (hZ:P9 w b f h) (sz:Sm h.natAbs):Calls Tryz.prog 170 #[f] w (M8 w h):=by
 obtain⟨mz,rfl,m⟩:=hZ;obtain⟨Az,nz,cz,rfl⟩:=m.sl;have s:=Ar (I7 h);generalize D:h.natAbs=a at s m sz;have B:=Ar D;let⟨p,O⟩:=gN (decide (h<0))
 have C:=Ar O;rw[O]at s ⊢;clear O D;go_in;go_upto_region 1 with fail;refine Bq λX y U=>?_
 obtain⟨p0,p1,-,-,-⟩:=U.pair
 go_upto_region 2 with (go_at_call 220;refine(Af5 p (m.keep y) sz).mono ?_;rintro e w1 ⟨v1,rfl,S,E⟩;rw[s.out]at S;obtain⟨m1,rfl,A⟩:=S;obtain⟨A1,n1,c1,rfl⟩:=A.sl;rw[C.out])
 refine Bq λY o T=>?_
 have V:=A.keep o;rw[B.out]at V;have z:=An (An y E) o;obtain⟨A',c',e',q1,q2,Z,q4,q5⟩:=V;injection e' with e1 e2 e3
 subst e1 e2 e3;let⟨k,q⟩:=gN ((lmb a).length)
 have HK:=Ar q;rw[q]at q1 Z T ⊢;obtain⟨g0,g1,-,-,-⟩:=T.pair;have fin0:Hid (9223372036854775808<=a->M8 w h (.returned (.tuple #[.int .i64 0,.bool false])) Y):=Ar (λv=>⟨0,false,rfl,(λv=>by cases v),(λ_=>by rw[B.out];exact v),z⟩);clear p0 p1 U A m y E o;by_cases H:k<=2
 .have u:a<18446744073709551616:=by
   have:=Mx a;rw[q]at this;exact Nat.lt_of_lt_of_le this (Nat.le_trans (Nat.pow_le_pow_right (by decide) H) (by decide))
  have r:=Ar u;have G:a / BB ^ k=0:=Nat.div_eq_of_lt (by have:=Mx a;rw[q]at this;exact this);have K:=Ar G;have R:IntKind.i64.wrap ((k:Int)-1)=(k:Int)-1:=by rw[IntKind.wrap_i64];omega
  clear q u G;go_upto_region 6 with fail;go_loopw [5,6] (λn i wr=>∃(j nn:Nat),j<=k/\i=.int .i64 ((j:Int)-1)/\n=.int .u64 (nn:Int)/\Hid (nn=a / BB ^ j)/\wr=Y) (λ_ i _=>(intOf i+1).toNat)
  case atStart=>exact⟨k,0,Nat.le_refl _,rfl,rfl,Ar K.out.symm,rfl⟩
  obtain⟨j,nn,hj,rfl,rfl,L,rfl⟩:=hrel;rcases j with - | t
  .have hn:nn=a:=by rw[L.out,Nat.pow_zero,Nat.div_one]
   subst hn;have d:=r.out;have l:=s.out;clear L hj H R;cases p with
   | true =>
     have m:h = -(nn:Int):=by rw[<-l];rfl
     have W:0<nn:=by have:=C.out;simp at this;omega
     by_cases g:nn<=9223372036854775808
     .have J:(nn:Int)<=9223372036854775808:=by omega
      have fin:Hid (M8 w h (.returned (.tuple #[(-(nn:Int):Int),.bool true])) wr):=Ar ⟨_,true,rfl,(λ_=>m.symm),(λv=>by cases v),z⟩;have D1:IntKind.u64.wrap ((nn:Int)-1)=(nn:Int)-1:=by rw[IntKind.wrap_u64];omega
      have D2:IntKind.i64.wrap ((nn:Int)-1)=(nn:Int)-1:=by rw[IntKind.wrap_i64];omega
      have D3:IntKind.i64.wrap (-((nn:Int)-1)) = -((nn:Int)-1):=by rw[IntKind.wrap_i64];omega
      have D4:IntKind.i64.wrap (-((nn:Int)-1)-1) = -(nn:Int):=by rw[IntKind.wrap_i64];omega
      clear g m l s B C d;go_wp2
      go_ret2
      exact fin.out
     have J:¬(nn:Int)<=9223372036854775808:=by omega
     have F:=fin0.out (by omega);clear g m l s B C d fin0;go_wp2
     go_ret2
     exact F
   | false =>
     have m:h=(nn:Int):=by rw[<-l];rfl
     by_cases g:nn<=9223372036854775807
     .have J:(nn:Int)<=9223372036854775807:=by omega
      have fin:Hid (M8 w h (.returned (.tuple #[(nn:Int),.bool true])) wr):=Ar ⟨_,true,rfl,(λ_=>m.symm),(λv=>by cases v),z⟩;have D2:IntKind.i64.wrap (nn:Int)=(nn:Int):=by rw[IntKind.wrap_i64];omega
      clear g m l s B C d;go_wp2
      go_ret2
      exact fin.out
     have J:¬(nn:Int)<=9223372036854775807:=by omega
     have F:=fin0.out (by omega);clear g m l s B C d fin0;go_wp2
     go_ret2
     exact F
  have ht:t<k:=by omega
  obtain⟨b1,o1,rfl,z1⟩:=Z.at_ ht;have N:=Cv a t
  have c:a / BB ^ t=(a / BB ^ (t+1))*BB+lim a t:=by
   rw[Q7,Nat.pow_succ,<-Nat.div_div_eq_div_mul,Nat.mul_comm];exact(Nat.div_add_mod _ _).symm
  let⟨x,P⟩:=gN (lim a t)
  have I:gu (lmb a) t=x:=P;rw[I]at z1;rw[P]at N c;rw[<-L.out]at c;have g:a / BB ^ t<=a:=Nat.div_le_self _ _;rw[c]at g;have M:Hid (nn*BB+x=a / BB ^ t):=Ar c.symm;have d:=r.out;unfold BB at N g;have Q:((t+1:Nat):Int)-1=(t:Int):=by omega
  rw[Q];have W1:IntKind.u64.wrap (x:Int)=(x:Int):=Ds (z:=(x:Int)) (by omega) (by omega);have W2:IntKind.u64.wrap ((nn:Int)*4294967296)=(nn:Int)*4294967296:=by rw[IntKind.wrap_u64];omega
  have W3:IntKind.u64.wrap ((nn:Int)*4294967296+(x:Int))=(nn:Int)*4294967296+(x:Int):=by rw[IntKind.wrap_u64];omega
  have W4:IntKind.i64.wrap ((t:Int)-1)=(t:Int)-1:=by rw[IntKind.wrap_i64];omega
  have B1:(t:Int)<(k:Int):=by omega
  have B0:(0:Int)<=(t:Int):=by omega
  clear P I c g d N R Q;go_wp2;exact⟨⟨t,nn*BB+x,by omega,rfl,by unfold BB;go_num,M,trivial⟩,by simp[intOf]⟩
 have F:=fin0.out (by
  have h2:=Sb (n:=a) (by
   intro e;rw[e,Cb]at q;simp at q;omega)
  rw[q]at h2;have h3:BB ^ 2<=BB ^ (k-1):=Nat.pow_le_pow_right (by decide) (by omega);have h4:BB ^ 2=18446744073709551616:=by decide
  omega)
 have J:¬(k:Int)<=2:=by omega
 clear fin0 q;go_wp2
 go_ret2
 exact F
end
section
open Go.RowKit Limb
theorem H9(x y:Int) (w:World) (D : -4611686018427387904<=x) (E:x<=4611686018427387904) (F : -4611686018427387904<=y) (G:y<=4611686018427387904):Calls Tryz.prog 155 #[.agg #[x,y]] w (Aei w (x:Rat) (y:Rat)):=by
 let⟨R,b⟩:=gN ((x:Rat):Rat)
 let⟨S,c⟩:=gN ((y:Rat):Rat)
 have q:=Ar b;have r:=Ar c;rw[b,c];clear b c;go_in;go_upto_region 1 with fail;refine Eo λX k H j=>?_
 have g:=j.lt;obtain⟨p0,p1,-,-,-⟩:=H.pair
 go_wp2_with (go_at_call 207;refine(pof x y _ D E F G).mono ?_;rintro e w1 ⟨v1,rfl,l,a⟩;rw[q.out,r.out]at l;obtain⟨m1,T,m2,U,rfl,h,d,i,f⟩:=l;obtain⟨m,J,t,rfl⟩:=h.sl;obtain⟨n,K,u,rfl⟩:=d.sl;obtain⟨o,L,A,rfl⟩:=i.sl;obtain⟨p,n4,B,rfl⟩:=f.sl;let⟨r0,r1,r2,r3,r4,r5⟩:=cells6 (j.keep a);let⟨V,W,Y,Z,f4,f5,C⟩:=fq (j.keep a))
 let⟨I,s⟩:=K8 (w:=w) (j.keep a) ⟨_,_,rfl,h,d⟩ ⟨_,_,rfl,i,f⟩ g (by omega) (An k a) _ rfl;let⟨M,N,s2,O,P,Q⟩:=cells6 I;exact bR s rfl (by simp[results,Tryz.results155,go_sem,M,N,s2,O,P,Q])
end
section
open Go.RowKit Limb
def Alf (s:Seg):Array Value:=#[s.fx,s.fy,s.tx,s.ty,s.wd]
def Pz (z:Int):Prop := -2097152<=z/\z<=2097152
def Seg.ok (s:Seg):Prop:=Pz s.fx/\Pz s.fy/\Pz s.tx/\Pz s.ty/\0<=s.wd/\s.wd<=1000
theorem Nn{z:Int} (h:Pz z):RB 22 (z:Rat):=RB.of (m:=22) (by have e:(2:Nat) ^ 22=4194304:=(by decide);rw[e];unfold Pz at h;omega) (by decide)
theorem c8{w:World}   {c d g i n:Value} (h:Bf w b e #[f,k,l,m,o]) (a:Bf w j e #[c,d,g,i,n]):Cq w b 0 f/\Cq w b 1 k/\Cq w b 2 l/\Cq w b 3 m/\Cq w j 0 c/\Cq w j 1 d/\Cq w j 2 g/\Cq w j 3 i :=
 ⟨(h.cell 0).trans rfl,(h.cell 1).trans rfl,(h.cell 2).trans rfl,(h.cell 3).trans rfl,(a.cell 0).trans rfl,(a.cell 1).trans rfl,(a.cell 2).trans rfl,(a.cell 3).trans rfl⟩
theorem Sy{w:World}   {c d:Value} (h:Bf w b e #[f,k,c,d,l]):Cq w b 0 f/\Cq w b 1 k/\Cq w b 2 c/\Cq w b 3 d/\Cq w b 4 l :=
 ⟨(h.cell 0).trans rfl,(h.cell 1).trans rfl,(h.cell 2).trans rfl,(h.cell 3).trans rfl,(h.cell 4).trans rfl⟩
theorem Ce.farB6{w:World} {a:Nat}    (h:Ce w b f j) (A:Bf w a e g) (o:∀(i:Nat) (x:Int),g[i]? ≠ some (Value.int .u32 x)) (u1 u2 u3 u4 u5 u6:Value):Ce ((((((w.setCell ⟨a,0,none⟩ u1).setCell ⟨a,1,none⟩ u2).setCell ⟨a,2,none⟩ u3).setCell ⟨a,3,none⟩ u4).setCell ⟨a,4,none⟩ u5).setCell ⟨a,5,none⟩ u6) b f j:=by
 obtain⟨r,s,t,u,v,m,y,z⟩:=h;refine⟨r,s,t,u,v,?_,y,z⟩;rcases Nat.eq_zero_or_pos (lmb j).length with l|l
 .exact⟨m.1,.inl l⟩
 have c:∀q,r=some q->q.block≠a:=by
  intro q hq k;let⟨B,C,d,n⟩:=m.at_ l;rw[hq]at d;injection d with d
  rw[d]at k;dsimp only at k;subst k;replace n:=(A.cell _).symm.trans n;exact o _ _ n
 exact(((((m.far (p:=⟨a,0,none⟩) c _).far (p:=⟨a,1,none⟩) c _).far (p:=⟨a,2,none⟩) c _).far (p:=⟨a,3,none⟩) c _).far (p:=⟨a,4,none⟩) c _).far (p:=⟨a,5,none⟩) c _
theorem Jg{w:World}    (h:Bf w b e #[f,k]):Cq w b 0 f/\Cq w b 1 k:=⟨(h.cell 0).trans rfl,(h.cell 1).trans rfl⟩
theorem Apu{w:World}    (h:Bf w b e g):w.frozen? ⟨b,0,none⟩=false/\w.frozen? ⟨b,1,none⟩=false/\b<w.heap.size:=⟨h.frozen 0,h.frozen 1,h.lt⟩
theorem Bf.set2{w:World}    (h:Bf w b e #[f,k]):Bf ((w.setCell ⟨b,0,none⟩ l).setCell ⟨b,1,none⟩ m) b e #[l,m]:=(h.set_ 0 l).set_ 1 m
theorem c62{w:World}  {g:TypeId} {c d v:Value} (h:Bf w b e #[f,k,c,d,l,m]) (a:Bf w j g #[o,v]):Cq w b 0 f/\Cq w b 1 k/\Cq w b 2 c/\Cq w b 3 d/\Cq w b 4 l/\Cq w b 5 m/\Cq w j 0 o/\Cq w j 1 v :=
 ⟨(h.cell 0).trans rfl,(h.cell 1).trans rfl,(h.cell 2).trans rfl,(h.cell 3).trans rfl,(h.cell 4).trans rfl,(h.cell 5).trans rfl,(a.cell 0).trans rfl,(a.cell 1).trans rfl⟩
theorem Aht(i:Nat) (x:Int):(#[.bool false,.slice none 0 0,.slice none 0 0,.bool false,.slice none 0 0,.slice none 0 0]:Array Value)[i]? ≠ some (Value.int .u32 x):=by
 intro a
 match i with
 | 0=>simp at a
 | 1=>simp at a
 | 2=>simp at a
 | 3=>simp at a
 | 4=>simp at a
 | 5=>simp at a
 | i+6=>simp at a
theorem ub(a b:Seg):(((a.tx:Int):Rat)-(a.fx:Rat))*((b.ty:Rat)-(b.fy:Rat))-((a.ty:Rat)-(a.fy:Rat))*((b.tx:Rat)-(b.fx:Rat))=((crD a b:Int):Rat):=by
 unfold crD;simp only[Rat.intCast_sub,Rat.intCast_mul]
theorem ua(a b:Seg):(((b.fx:Int):Rat)-(a.fx:Rat))*((b.ty:Rat)-(b.fy:Rat))-((b.fy:Rat)-(a.fy:Rat))*((b.tx:Rat)-(b.fx:Rat))=((crN a b:Int):Rat):=by
 unfold crN;simp only[Rat.intCast_sub,Rat.intCast_mul]
theorem Kv{w:World} {x a b:Int}:SpS (w.alloc (.cells #[x,h,a,b] 60)) (some ⟨w.heap.size,0,none⟩) 2 [(x,h),(a,b)]:=by
 have c:=Bf.new w 60 #[x,h,a,b];refine⟨rfl,.inr ⟨_,0,rfl,λk d=>?_⟩⟩
 match k,d with
 | 0,_=>exact⟨(c.cell 0).trans rfl,(c.cell 1).trans rfl⟩
 | 1,_=>exact⟨(c.cell 2).trans rfl,(c.cell 3).trans rfl⟩
theorem Yp{w:World} {x:Int}:SpS (w.alloc (.cells #[x,h] 60)) (some ⟨w.heap.size,0,none⟩) 1 [(x,h)]:=by
 have a:=Bf.new w 60 #[x,h];refine⟨rfl,.inr ⟨_,0,rfl,λk b=>?_⟩⟩
 match k,b with
 | 0,_=>exact⟨(a.cell 0).trans rfl,(a.cell 1).trans rfl⟩
def Aek (w:World) (l:LP) (e:Ending) (a:World):Prop:=∃g,e=.returned (.slice (some ⟨g,0,none⟩) l.length l.length)/\w.heap.size<=g/\SpS a (some ⟨g,0,none⟩) l.length l/\Be w a
theorem PtV.farB6{w:World}   {x:Rat}   (h:PtV w b f x n) (c:Bf w j e g) (a:∀(i:Nat) (x:Int),g[i]? ≠ some (Value.int .u32 x)) (u1 u2 u3 u4 u5 u6:Value):PtV ((((((w.setCell ⟨j,0,none⟩ u1).setCell ⟨j,1,none⟩ u2).setCell ⟨j,2,none⟩ u3).setCell ⟨j,3,none⟩ u4).setCell ⟨j,4,none⟩ u5).setCell ⟨j,5,none⟩ u6) b f x n:=by
 obtain⟨m,d,s,k,l,o,p,q,r⟩:=h;exact⟨m,d,s,k,l,o.farB6 c a _ _ _ _ _ _,p.farB6 c a _ _ _ _ _ _,q.farB6 c a _ _ _ _ _ _,r.farB6 c a _ _ _ _ _ _⟩
theorem Xf(v:Int×Int) (a b:Seg) (w:World) (bm:Pz v.1) (bp:Pz v.2) (ha:a.ok) (hb:b.ok):Calls Tryz.prog 107 #[.agg #[v.1,v.2],.agg (Alf a),.agg (Alf b)] w (Aek w (C9 v a b)):=by
 obtain⟨vx,vy⟩:=v;dsimp only at bm bp;obtain⟨a1,a2,a3,a4,a5,a6⟩:=ha;obtain⟨b1,b2,b3,b4,b5,b6⟩:=hb;have r1:=Nn a1;have r2:=Nn a2;have r3:=Nn a3;have r4:=Nn a4;have r5:=Nn b1;have r6:=Nn b2;have r7:=Nn b3;have r8:=Nn b4;unfold Pz at *
 unfold Alf;let⟨N,hN⟩:=gN ((crN a b:Int):Rat)
 let⟨D,s⟩:=gN ((crD a b:Int):Rat)
 have ek:=Ar hN;have ee:=Ar s;have HN:=Ar ((ua a b).trans hN);have HD:=Ar ((ub a b).trans s);have Q:Hid (D.num=crD a b):=Ar (by rw[<-s];rfl);let⟨kk,hk⟩:=gN ((if D.num=0 then 10 else 0):Int)
 have HK:=Ar hk;clear hN s hk;go_in;go_upto_region 1 with fail;refine Jy λX ch hP hQ hR=>?_
 go_cut [7,8] λu v W=>∃g p A n c B k d q C m l E o f,u=.pointer (some ⟨g,0,none⟩)/\v=.int .i64 kk/\(D.num≠0->PtV W 0 (.agg #[.bool p,.slice A n c,.slice B k d,.bool q,.slice C m l,.slice E o f]) ((a.fx:Int)+(((a.tx:Int):Rat)-(a.fx:Int))*(N / D)) ((a.fy:Int)+(((a.ty:Int):Rat)-(a.fy:Int))*(N / D)))/\Bf W g 202 #[.bool p,.slice A n c,.slice B k d,.bool q,.slice C m l,.slice E o f]/\X.heap.size<=g/\Be X W
 case first =>
  go_region_held3 (sB λW h=>c8 (hQ.keep h) (hR.keep h))
   (exact c8 (hQ.keep BI.h) (hR.keep BI.h))
   ((first
     | (go_at_call 154;have lb:=h4;refine(Ama (Y.keep BI.h) (h2.keep BI.h) (h3.keep BI.h) (h4.keep BI.h) r1 r2 r3 r4 r5 r6 r7 r8 HN.out HD.out).mono ?_;rintro e w5 ⟨p5,B1,n1,c1,B2,n2,c2,q5,B3,n3,c3,B4,n4,c4,rfl,h5,S⟩;rw[HK.out];have l1:=BI.go (a:=X) S;(try (have kB:=KI.go (t:=202) S;let⟨j0,j1,j2,j3,j4,j5⟩:=cells6 kB.h;let⟨k0,k1,k2,k3,k4,k5,k6⟩:=fq kB.h)))
     | (go_at_call 155;have hx:=h3;refine(H9 _ _ _ (by omega) (by omega) (by omega) (by omega)).mono ?_;rintro e w4 ⟨v4,rfl,h4,i⟩;replace h4:=PtV.lower h4 (Nat.zero_le _);have ho:=BI.go (a:=X) i;have hj:=BI.go (a:=w1) i;have hl:=BI.go (a:=w2) i;have hn:=BI.go (a:=w3) i;(try have kB:=KI.go (t:=202) i))
     | (go_at_call 155;have hx:=h2;refine(H9 _ _ _ (by omega) (by omega) (by omega) (by omega)).mono ?_;rintro e w3 ⟨v3,rfl,h3,G⟩;replace h3:=PtV.lower h3 (Nat.zero_le _);have hh:=BI.go (a:=X) G;have hf:=BI.go (a:=w1) G;have hg:=BI.go (a:=w2) G;(try have kB:=KI.go (t:=202) G))
     | (go_at_call 155;have hx:=Y;refine(H9 _ _ _ (by omega) (by omega) (by omega) (by omega)).mono ?_;rintro e w2 ⟨v2,rfl,h2,K⟩;replace h2:=PtV.lower h2 (Nat.zero_le _);have hd:=BI.go (a:=X) K;have hc:=BI.go (a:=w1) K;(try have kB:=KI.go (t:=202) K))
     | (go_at_call 155;refine(H9 _ _ _ (by omega) (by omega) (by omega) (by omega)).mono ?_;rintro e w1 ⟨v1,rfl,Y,O⟩;replace Y:=PtV.lower Y (Nat.zero_le _);have h9:=BI.go (a:=X) O;(try have kB:=KI.go (t:=202) O))))
  all_goals go_wp2_with fail
  all_goals go_meet
  all_goals (first
   | with_reducible exact⟨_,p5,B1,n1,c1,B2,n2,c2,q5,B3,n3,c3,B4,n4,c4,rfl,rfl,λh=>((h5 h).lower (Nat.zero_le _)).keep blA,Bf.new _ _ _,LI.h,BI.h⟩
   | with_reducible exact⟨_,p5,B1,n1,c1,B2,n2,c2,q5,B3,n3,c3,B4,n4,c4,rfl,rfl,λh=>((h5 h).lower (Nat.zero_le _)).farB6 kB.h Aht _ _ _ _ _ _,kB.h.set6,LI.h,BI.h⟩)
 obtain⟨g,p5,B1,n1,c1,B2,n2,c2,q5,B3,n3,c3,B4,n4,c4,rfl,rfl,F,hG,l5,H⟩:=hcut;by_cases s:crD a b=0
 .have M:=Ar (show C9 (vx,vy) a b=[(a.tx,a.ty),(b.fx,b.fy)] by unfold C9;rw[if_pos s]);obtain rfl:kk=10:=HK.out.symm.trans (if_pos (Q.out.trans s));let⟨q0,q1,q2,q3,q4⟩:=Sy (hQ.keep H);let⟨s0,s1,s2,s3,s4⟩:=Sy (hR.keep H);have U:=An ch H;clear s F;go_wp2_with fail;go_ret;refine⟨_,by rw[M.out];rfl,U.size,by rw[M.out];exact Kv,Ao U _⟩
 obtain rfl:kk=0:=HK.out.symm.trans (if_neg (by rw[Q.out];exact s));replace F:=F (by rw[Q.out];exact s);let⟨T,hT⟩:=gN (N / D)
 rw[hT]at F;have ET:=Ar hT;let⟨zx,bs⟩:=gN (((a.fx:Int)+(((a.tx:Int):Rat)-(a.fx:Int))*T):Rat)
 let⟨zy,bt⟩:=gN (((a.fy:Int)+(((a.ty:Int):Rat)-(a.fy:Int))*T):Rat)
 rw[bs,bt]at F;have EX:=Ar bs;have EY:=Ar bt;clear hT bs bt;have b9:(crD a b).natAbs≠0:=by omega
 have ba:T=((crN a b:Int):Rat) / ((crD a b:Int):Rat):=by rw[<-ET.out,<-ek.out,<-ee.out]
 let⟨j,bd⟩:=gN (Ajg (vx,vy) a b)
 let⟨r,bl⟩:=gN (Ajf (vx,vy) a b)
 have GX:Hid (rnd (zx-(vx:Rat)).num (zx-(vx:Rat)).den=j):=Ar (by
  rw[<-EX.out,ba,<-bd,Nq a.fx a.tx vx (crN a b) (crD a b) s];exact Yd b9)
 have GY:Hid (rnd (zy-(vy:Rat)).num (zy-(vy:Rat)).den=r):=Ar (by
  rw[<-EY.out,ba,<-bl,Nq a.fy a.ty vy (crN a b) (crD a b) s];exact Yd b9)
 have ak:=Ar bd;have ar:=Ar bl;have tw:∀{x y:Rat},RB 22 x->RB 22 y->RB 45 (x-y):=λh k=>RB.sub (m:=22) (n:=22) h k
 have tT:RB 362 T:=by rw[<-ET.out];exact RB.div (m:=181) (n:=181) (HN.out ▸ RB.x r5 r1 r8 r6 r6 r2 r7 r5) (HD.out ▸ RB.x r3 r1 r8 r6 r4 r2 r7 r5) (by rw[Q.out];exact s)
 have c5:RB 600 zx:=by rw[<-EX.out];exact(RB.add (m:=22) r1 ((tw r3 r1).mul tT)).le (by decide)
 have c6:RB 600 zy:=by rw[<-EY.out];exact(RB.add (m:=22) r2 ((tw r4 r2).mul tT)).le (by decide)
 have b0:RB 600 (vx:Rat):=(Nn (z:=vx) bm).le (by decide);have b7:RB 600 (vy:Rat):=(Nn (z:=vy) bp).le (by decide);have au:RB 600 (zx-(vx:Rat)):=by rw[<-EX.out];exact(RB.sub (n:=22) (RB.add (m:=22) r1 ((tw r3 r1).mul tT)) (Nn (z:=vx) bm)).le (by decide)
 have aw:RB 600 (zy-(vy:Rat)):=by rw[<-EY.out];exact(RB.sub (n:=22) (RB.add (m:=22) r2 ((tw r4 r2).mul tT)) (Nn (z:=vy) bp)).le (by decide)
 let⟨fx,bb⟩:=gN ((vx:Rat):Rat)
 let⟨fy,bc⟩:=gN ((vy:Rat):Rat)
 rw[bb]at GX b0 au;rw[bc]at GY b7 aw;have bw:=Ar bb;have bx:=Ar bc;have R:=hP.keep H;have cd:=hQ.keep H;have cg:=hR.keep H;have U:=An ch H;clear bd bl bb bc tT tw r1 r2 r3 r4 r5 r6 r7 r8 ba b9;go_upto_region 3 with fail;go_cut [9,10] (λv9 gx cz=>∃g2:Nat,v9=.pointer (some ⟨g2,0,none⟩)/\gx=.int .i64 (Nf j r).2/\Bf cz g2 60 #[(Nf j r).1.1,(Nf j r).1.2]/\wc.heap.size<=g2/\Be wc cz)
 case first =>
  go_region_held3 (sB λW h=>c62 (hG.keep h) (R.keep h))
   (exact c62 (hG.keep BI.h) (R.keep BI.h))
   ((first
     | (go_at_call 156;have hx:=h2;refine rR (Amb (h2.keep BI.h) au aw j r GX.out GY.out) λw3 G=>?_;have l0:=BI.go (a:=wc) G;(try (have kC:=KI.go (t:=60) G;let⟨j0,j1⟩:=Jg kC.h;let⟨k0,k1,k2⟩:=Apu kC.h)))
     | (go_at_call 157;have hx:=Y;refine(Ai9 (F.keep BI.h) (Y.keep BI.h) c5 c6 b0 b7).mono ?_;rintro e w2 ⟨v2,rfl,h2,K⟩;have kz:=BI.go (a:=wc) K;(try have kC:=KI.go (t:=60) K))
     | (go_at_call 155;refine(H9 _ _ _ (by omega) (by omega) (by omega) (by omega)).mono ?_;rintro e w1 ⟨v1,rfl,Y,O⟩;rw[bw.out,bx.out]at Y;have kp:=BI.go (a:=wc) O;(try have kC:=KI.go (t:=60) O))))
  all_goals go_wp2_with fail
  all_goals go_meet
  all_goals (first
   | exact⟨_,rfl,rfl,Bf.new _ _ _,LI.h,BI.h⟩
   | exact⟨_,rfl,rfl,kC.h.set2,LI.h,BI.h⟩)
 obtain⟨g2,rfl,rfl,hS,l4,V⟩:=hcut;have ev:=Jg (R.keep V);obtain⟨p0,p1⟩:=ev;let⟨q0,q1,q2,q3,q4⟩:=Sy (cd.keep V);let⟨s0,s1,s2,s3,s4⟩:=Sy (cg.keep V);have I:=An U V;clear hP hQ hR R cd cg hG F c5 c6 au aw b0 b7 GX GY bw bx ET EX EY;by_cases L:(inC j&&inC r)=true
 .have hgr:Nf j r=((j,r),0):=by unfold Nf;rw[if_pos L]
  rw[hgr]at hS ⊢;let⟨j0,j1⟩:=Jg hS;let⟨l6,la⟩:(-1048576<=j/\j<=1048576)/\(-1048576<=r/\r<=1048576):=by unfold inC at L;simpa using L
  have fb:0<=max a.wd b.wd/\max a.wd b.wd<=1000:=by omega
  let⟨mx,P⟩:=gN (max a.wd b.wd)
  rw[P]at fb;have W1:IntKind.i64.wrap (4*mx)=4*mx:=by rw[IntKind.wrap_i64];omega
  have W2:IntKind.i64.wrap (4*mx+4)=4*mx+4:=by rw[IntKind.wrap_i64];omega
  by_cases bq:wS (j,r) (4*mx+4)=true
  .have M:=Ar (show C9 (vx,vy) a b=[(vx+j,vy+r)] by unfold C9;rw[if_neg s,ak.out,ar.out,P,if_pos (by simp[L,bq])])
   go_wp2_with (first|(go_at_call 108;refine rR (Is j r _ _ (by omega) (by omega)) λw4 i=>?_;rw[bq];have J:=An I i;have c1:=Aq i p0;have c2:=Aq i p1;have c3:=Aq i j0;have c4:=Aq i j1)|(go_at_call 106;refine rR (Sz vx vy j r _ (by omega) (by omega) (by omega) (by omega)) λw5 S=>?_;have Z:=An J S))
   all_goals go_ret
   refine⟨_,by rw[M.out];rfl,Z.size,by rw[M.out];exact Yp,Ao Z _⟩
  have a7:wS (j,r) (4*mx+4)=false:=by simpa using bq
  have M:=Ar (show C9 (vx,vy) a b=[(a.tx,a.ty),(b.fx,b.fy)] by unfold C9;rw[if_neg s,ak.out,ar.out,P,if_neg (by simp[a7])])
  go_wp2_with (go_at_call 108;refine rR (Is j r _ _ (by omega) (by omega)) λw4 i=>?_;rw[a7];have J:=An I i;have c1:=Aq i q2;have c2:=Aq i q3;have c3:=Aq i s0;have c4:=Aq i s1)
  all_goals go_ret
  refine⟨_,by rw[M.out];rfl,J.size,by rw[M.out];exact Kv,Ao J _⟩
 have hgr:Nf j r=((0,0),3):=by unfold Nf;rw[if_neg L]
 rw[hgr]at hS ⊢;have M:=Ar (show C9 (vx,vy) a b=[(a.tx,a.ty),(b.fx,b.fy)] by unfold C9;rw[if_neg s,ak.out,ar.out,if_neg (by simp[L])])
 go_wp2_with fail;all_goals go_ret
 refine⟨_,by rw[M.out];rfl,I.size,by rw[M.out];exact Kv,Ao I _⟩
end
section
open Go.RowKit Limb
theorem al{w:World}  {x:Rat} {vx:Value}  (O:Ib w b vx x) (v m:Int) (V:RB 600 x) (U:RB 600 ((v:Int):Rat)) (u:RB 600 (x-(v:Rat))) (A:rnd (x-(v:Rat)).num (x-(v:Rat)).den=h) (hv:Pz v) (h0:0<=m) (hm:m<=1000000) :
 Calls Tryz.prog 120 #[vx,v,m] w (Bz w (.tuple #[(if -m<=h/\h<=m then v+h else 0:Int),.bool (decide (-m<=h/\h<=m))])):=by
 have i:=O;obtain⟨mx,dx,rfl,P,s⟩:=O;obtain⟨R,nx,Y,rfl⟩:=P.sl;obtain⟨S,ox,Z,rfl⟩:=s.sl;generalize hp:decide (x.num<0)=p at i ⊢;clear hp P s
 have Q:Sm h.natAbs:=by
  rw[<-A];refine F7 (m:=600+2) ?_ (by decide);exact Nat.lt_of_le_of_lt (lv _ _ (Nat.pos_of_ne_zero (x-(v:Rat)).den_nz)) (by rw[Nat.two_mul];exact S6 (m:=600) u.1 u.2)
 unfold Pz at hv;let⟨r,z⟩:=gN (if -m<=h/\h<=m then v+h else 0)
 let⟨t,y⟩:=gN (decide (-m<=h/\h<=m))
 have C:=Ar (λ(g:¬(-m<=h/\h<=m))=>show r=0/\t=false by rw[<-z,<-y,if_neg g,decide_eq_false g];exact⟨rfl,rfl⟩);have T:=Ar (λ(g : -m<=h/\h<=m)=>show r=v+h/\t=true by rw[<-z,<-y,if_pos g,decide_eq_true g];exact⟨rfl,rfl⟩);rw[z,y];clear z y;let⟨d,G⟩:=gN (x-(v:Rat):Rat)
 rw[G]at A u;have J:=Ar G;have L:=Ar A;clear G A;go_in;go_upto_region 1 with fail;refine Bq λX q N=>?_
 have a:=Aw (Below.refl X.heap.size X);have K:=Ar λ(W:World) (g:Be X W)=>(i.keep q).keep g
 go_region_held3 (λD=>Cq D w.heap.size 0 (.bool p)/\Cq D w.heap.size 1 (.slice R nx Y)/\Cq D w.heap.size 2 (.slice S ox Z))
  (with_reducible exact Iv (N.keep a))
  ((first
    | (go_at_call 170;refine(Ajt F Q).mono ?_;rintro e w5 ⟨B,ok,rfl,H,I,o⟩;replace a:=An a o)
    | (go_at_call 171;refine(Ajq E u).mono ?_;rintro e w4 ⟨v4,rfl,F,n⟩;rw[L.out]at F;replace a:=An a n)
    | (go_at_call 172;refine(Amq (K.out _ a) M V U).mono ?_;rintro e w3 ⟨v3,rfl,E,l⟩;rw[J.out]at E;replace a:=An a l)
    | (go_at_call 173;refine(Adw v _ (by omega) (by omega)).mono ?_;rintro e w2 ⟨v2,rfl,M,j⟩;replace a:=An a j)))
 have f:=An q a;have W1:IntKind.i64.wrap (-m) = -m:=by rw[IntKind.wrap_i64];omega
 clear N K J L j l n o a M E F Q;cases ok with
 | false =>
   have k:=I rfl;have c:=Ar (C.out (by omega));clear H I k;go_wp2
   go_ret2
   exact⟨by rw[c.out.1,c.out.2];rfl,f⟩
 | true =>
   obtain rfl:=H rfl;clear H I;by_cases g1:m<B
   .have c:=Ar (C.out (by omega));go_wp2
    go_ret2
    exact⟨by rw[c.out.1,c.out.2];rfl,f⟩
   by_cases g2:B < -m
   .have c:=Ar (C.out (by omega));go_wp2
    go_ret2
    exact⟨by rw[c.out.1,c.out.2];rfl,f⟩
   have c:=Ar (T.out (by omega));have W2:IntKind.i64.wrap (v+B)=v+B:=by rw[IntKind.wrap_i64];omega
   go_wp2
   go_ret2
   exact⟨by rw[c.out.1,c.out.2];rfl,f⟩
theorem spt(x y:Int) (w:World) (D:Pz x) (i:Pz y):Calls Tryz.prog 118 #[.agg #[x,y]] w (Aei w (x:Rat) (y:Rat)):=by
 unfold Pz at D i;go_in;go_upto_region 1 with fail;refine Eo λX k E j=>?_
 let⟨p0,p1⟩:=Jg E;let⟨O,g⟩:=gN ((x:Rat):Rat)
 let⟨P,h⟩:=gN ((y:Rat):Rat)
 have m:=Ar g;have n:=Ar h;have l:=j.lt;clear g h
 go_wp2_with (go_at_call 169;refine(Apf x y _ (by omega) (by omega) (by omega) (by omega)).mono ?_;rintro e w2 ⟨v2,rfl,i,a⟩;rw[m.out,n.out]at i;obtain⟨Z,Q,m2,R,rfl,d,b,f,c⟩:=i;obtain⟨o,G,t,rfl⟩:=d.sl;obtain⟨p,H,u,rfl⟩:=b.sl;obtain⟨q,I,A,rfl⟩:=f.sl;obtain⟨r,n4,B,rfl⟩:=c.sl;let⟨r0,r1,r2,r3,r4,r5⟩:=cells6 (j.keep a);let⟨S,T,U,V,W,Y,C⟩:=fq (j.keep a))
 rw[m.out,n.out];let⟨F,s⟩:=K8 (w:=w) (j.keep a) ⟨_,_,rfl,d,b⟩ ⟨_,_,rfl,f,c⟩ l (by omega) (An k a) _ rfl;let⟨J,K,s2,L,M,N⟩:=cells6 F;exact bR s rfl (by simp[results,Tryz.results118,go_sem,J,K,s2,L,M,N])
end
def sgC (r:SgR):Array Value:=#[r.a.1,r.a.2,r.b.1,r.b.2,r.w,r.s.1,r.s.2]
def Fj (r:SgR):Seg:=⟨r.a.1+r.s.1,r.a.2+r.s.2,r.b.1+r.s.1,r.b.2+r.s.2,r.w⟩
section
open Go.RowKit Limb
theorem Ai0{w:World}   {c d a g h i q n p:Value} (H:Bf w b e #[f,k,c,d,l,m,o]) (K:Bf w j e #[a,g,h,i,q,n,p]) :
 Cq w b 0 f/\Cq w b 1 k/\Cq w b 2 c/\Cq w b 3 d/\Cq w b 5 m/\Cq w b 6 o /\
 Cq w j 0 a/\Cq w j 1 g/\Cq w j 2 h/\Cq w j 3 i/\Cq w j 5 n/\Cq w j 6 p:=by
 obtain⟨r,s,t,u,-,v,x⟩:=pc7 H;obtain⟨y,z,A,B,-,C,D⟩:=pc7 K;exact⟨r,s,t,u,v,x,y,z,A,B,C,D⟩
theorem Vr{w:World} {x a c:Int}  (d:b=w.heap.size):SpS (w.alloc (.cells #[x,h,a,c] 60)) (some ⟨b,0,none⟩) 2 [(x,h),(a,c)]:=by subst d;exact Kv
end
theorem Vs{w:World}    (h:Bf w b e #[f,k]):Cq w b 0 f/\Cq w b 1 k:=⟨(h.cell 0).trans rfl,(h.cell 1).trans rfl⟩
theorem Wv{E:List EdgeP}   (h:∀k,k<b->0<=gi i k/\gi i k<=500):∀x∈Ek E i b,0<=x/\x<=500:=by
 induction b with
 | zero=>intro x a;simp[Ek]at a
 | succ b ih =>
   intro x a;rw[Ek,List.mem_append]at a;rcases a with a|a
   .exact ih (λk c=>h k (by omega)) x a
   rw[List.eq_of_mem_replicate a];exact h b (by omega)
theorem Agg(h:∀x∈i,0<=x/\x<=500) (a:Nat):0<=gi i a/\gi i a<=500:=by
 unfold gi;by_cases b:a<i.length
 .simp only[List.getD,List.getElem?_eq_getElem b,Option.getD_some];exact h _ (List.getElem_mem b)
 simp only[List.getD,List.getElem?_eq_none (by omega:i.length<=a),Option.getD_none];omega
theorem Aen(h:Bp (wdB i) b=false):∀k,k<b->0<=gi i k/\gi i k<=500:=by
 intro k a;cases hw:wdB i k with
 | false=>unfold wdB at hw;simp at hw;omega
 | true=>rw[Bp.yes (f:=wdB i) a hw]at h;cases h
theorem Aoo(A:Option Addr) (a n:Nat) (E:List EdgeP) (g:Option Addr) (o j:Nat) (w:World) (b:n<=a) (l:n<=9223372036854775807) (k:EdS w A n E) (h:C7 E≠0) :
 Calls Tryz.prog 103 #[.slice A n a,.slice g o j] w (Ng w ([],C7 E)):=by
 let⟨c,f⟩:=gN (C7 E)
 have i:=Ar (show L9 E=([],c) by unfold L9;rw[if_pos h,f]);rw[f]at h ⊢;have m:(c != 0)=true:=by simpa using h
 clear f h;go_in
 go_wp2_with (go_at_call 104;refine(K9 A a n E _ b l k).mono ?_;rintro e q ⟨p,rfl,-,d⟩;rw[i.out])
 go_ret2
 exact⟨_,rfl,OwG.nil,d⟩
theorem Aon(A:Option Addr) (a n:Nat) (E:List EdgeP) (g:Option Addr) (f j:Nat) (w:World) (b:n<=a) (l:n<=9223372036854775807) (k:EdS w A n E) (h:C7 E=0) (d:f≠n) :
 Calls Tryz.prog 103 #[.slice A n a,.slice g f j] w (Ng w ([],1)):=by
 have i:=Ar (show L9 E=(Bj E,0) by unfold L9;rw[if_neg (by simpa using h)]);have l:((f:Int) != (n:Int))=true:=by rw[bne_iff_ne];omega
 clear h d;go_in
 go_wp2_with (go_at_call 104;refine(K9 A a n E _ b (by assumption) k).mono ?_;rintro e o ⟨m,rfl,-,c⟩;rw[i.out])
 go_ret2
 exact⟨_,rfl,OwG.nil,c⟩
theorem Aom(A:Option Addr) (L n:Nat) (E:List EdgeP) (A2:Option Addr) (u c2:Nat) (o:List Int) (w:World) (ck:n<=L) (hE:EdS w A n E) (hW:InS w A2 u o) (h:C7 E=0) (m:u=n) :
 Calls Tryz.prog 103 #[.slice A n L,.slice A2 u c2] w (Ng w (if Bp (wdB o) u then ([],3) else (Ec E o,0))):=by
 have bw:=Ar m;have hg:((u:Int) != (n:Int))=false:=by rw[m];simp
 have j5:u<=16:=by rw[m];have:=(D5 h).2.1;rw[hE.1]at this;exact this
 clear m;have HP:=Ar (show L9 E=(Bj E,0) by unfold L9;rw[if_neg (by simpa using h)]);have b6:=Ar hE.1;let⟨o1,o2,o3,o4,o5⟩:=D5 h;have hn:n<=16:=by rw[b6.out]at o2;exact o2
 have er:=Ar (show ∀k,k<n->1<=(edg E k).ln.length/\(edg E k).ln.length<=40 from λk hk=>by have:=Er (o3 k (by rw[b6.out];exact hk)).2;omega);have eg:=Ar o5;have b4:=Ar (show (Hl E o).length=(Bj E).length from Gt _);have fa:=Ar (show Bp (wdB o) u=false->∀i,0<=gi (Hl E o) i/\gi (Hl E o) i<=500 from λh=>Agg (Wv λk hk=>Aen h k (by have:=b6.out;have:=bw.out;omega)));let⟨R,hR⟩:=gN ((if Bp (wdB o) u then ([],3) else (Ec E o,0)):LP×Int)
 rw[hR];have b7:=Ar hR;clear h o1 o2 o3 o4 o5 hR;go_in
 go_upto_region 7 with (go_at_call 104;refine(K9 A L n E _ ck (by omega) hE).mono ?_;rintro e w1 ⟨v1,rfl,ai,G⟩;rw[HP.out]at ai ⊢)
 generalize hV:Bj E=V at ai;have c6:=Ar hV;obtain⟨Av,cv,rfl,hf,P,-⟩:=ai.sps;let⟨b,ad⟩:=gN V.length
 have O:=eg.out;rw[hV,ad]at O;obtain⟨ly,j6,ar,-⟩:=Je O;have bu:=Ar ar;have ek:=Ar λi j (hi:i<b) (hj:j<b) (m:i≠j)=>um O hi hj m;have F:=Ar ad;rw[ad]at hf P ⊢;clear hV ad O ar ai hg;have cd:=hW.keep G;have gx:=hE.keep G;go_loopw [9,35] (λ_ c wr=>∃k:Nat,k<=u/\c=.int .i64 k/\Hid (Bp (wdB o) k=false)/\Hid (w1=wr)) λ_ c _=>u-(intOf c).toNat
 case atStart=>exact⟨0,Nat.zero_le _,rfl,Ar (Bp.zero _),Ar rfl⟩
 obtain⟨k,hk,rfl,C,hr⟩:=hrel;obtain rfl:=hr.out;by_cases l:k<u
 .obtain⟨b9,k0,rfl,hd⟩:=cd.at_ l;have B1:(k:Int)<(u:Int):=by omega
  generalize hx:gi o k=x at hd;by_cases h0:x<0
  .have HR:=Ar (show R=([],3) by rw[<-b7.out,Bp.yes (f:=wdB o) l (by unfold wdB;rw[hx];simp;omega)];rfl);clear hx;go_wp2
   go_ret2
   rw[HR.out];exact⟨_,rfl,OwG.nil,G⟩
  by_cases h5:500<x
  .have HR:=Ar (show R=([],3) by rw[<-b7.out,Bp.yes (f:=wdB o) l (by unfold wdB;rw[hx];simp;omega)];rfl);clear hx;go_wp2
   go_ret2
   rw[HR.out];exact⟨_,rfl,OwG.nil,G⟩
  have HP:=Bp.succ (f:=wdB o) C.out (by unfold wdB;rw[hx];simp;omega);clear hx;go_wp2;exact⟨⟨k+1,by omega,by go_num,Ar HP,by first|exact Ar rfl|exact Ar trivial⟩,by simp[intOf];omega⟩
 obtain rfl:u=k:=by omega
 have HR:=Ar (show R=(Ec E o,0) by rw[<-b7.out,C.out];rfl);have ba:=fa.out C.out;generalize hD:Hl E o=D at ba b4;rw[c6.out,F.out]at b4;let⟨sg,bl⟩:=gN (orW V)
 have ds:=ot V;rw[bl]at ds;have c5:=Ar bl;have HD:=Ar hD;have ey:=Ar ba;let⟨Z,J,hZ⟩:=Ht b (by omega);clear C ba hD bl
 go_upto_region 16 with (first
  | (go_at_call 105;have C:=H;refine(Z3 A L n E A2 u c2 o _ (by omega) (by have:=bw.out;omega) (gx.keep H) (cd.keep H) λk hk=>er.out k hk).mono ?_;rintro e w3 ⟨v3,rfl,ak,cg⟩;rw[HD.out]at ak)
  | (go_at_call 109;refine rR (G9 Av cv b V _ (by omega) (by omega) P) λK H=>?_;rw[c5.out]))
 obtain⟨A3,c3,rfl,ha,cb,-⟩:=ak.ins;rw[b4.out]at ha cb ⊢;have kp:=Ar ak;let⟨BZ,v⟩:∃B,B=w3.heap.size:=⟨_,rfl⟩
 have bb:=hZ w3;have b1:=Ao (Below.refl w3.heap.size w3) (.cells Z 60);rw[<-v]at bb ⊢;have bt:=Ar v;have cj:=An G (An H cg);have h3:=P.keep (An H cg);clear ak C J hZ v P;go_loopw [13,14,15,16,17,18,19,56] (λ_ _ _ _ _ _ _ i wr=>∃(k:Nat) (z:LP),k<=b/\i=.int .i64 k/\z.length=b/\Hid (∀p,p<k->gt z p=shP V sg D p)/\OwS wr BZ (.slice (some ⟨BZ,0,none⟩) b b) z/\Be w3 wr) λ_ _ _ _ _ _ _ i _=>b-(intOf i).toNat
 case atStart=>exact⟨0,_,Nat.zero_le _,rfl,List.length_replicate,Ar λp hp=>absurd hp (Nat.not_lt_zero _),bb,b1⟩
 clear bb b1;obtain⟨k,z,hk,rfl,C,hp,ho,hb⟩:=hrel;by_cases l:k<b
 .have J:(k+1) % b<b:=Nat.mod_lt _ (by omega)
  have cu:k≠(k+1) % b:=by
   intro e;rcases Nat.lt_or_ge (k+1) b with g|g
   .rw[Nat.mod_eq_of_lt g]at e;omega
   rw[show k+1=b by omega,Nat.mod_self]at e;omega
  have m:=ek.out k _ l J cu;have i1:=bu.out k l;have i2:=bu.out _ J;have mf:=Q6 ((k:Int)+1) (k+1) b rfl (by omega);obtain⟨b0,mx,rfl,-,hc⟩:=(h3.keep hb).at_ l;let⟨e1,e2⟩:=hc k l;let⟨e3,e4⟩:=hc _ J;obtain⟨b5,j9,rfl,e5⟩:=(cb.keep hb).at_ l;let⟨d1,d2⟩:=ey.out k;have a:=Ar (show shP V sg D k=(F8 (sg*gi D k*((gt V ((k+1) % b)).2-(gt V k).2)) (Ca (sqd (gt V k) (gt V ((k+1) % b)))),F8 (-(sg*gi D k)*((gt V ((k+1) % b)).1-(gt V k).1)) (Ca (sqd (gt V k) (gt V ((k+1) % b))))) by unfold shP;rw[F.out]);let⟨p,cy⟩:=gN (gt V k)
  let⟨q,cz⟩:=gN (gt V ((k+1) % b))
  let⟨dk,cn⟩:=gN (gi D k)
  rw[cy]at m i1 e1 e2 a;rw[cz]at m i2 e3 e4 a;rw[cn]at e5 d1 d2 a;clear cy cz cn hc;let⟨c,S⟩:=gN (sg*dk)
  have bd : -500<=c/\c<=500:=by
   rcases(show sg = -1\/sg=0\/sg=1 by omega) with h|h|h<;>rw[h]at S<;>omega
  rw[S]at a;let⟨u1,u2,u3,u4',u5,u6,u7,u8⟩:=ks bd.1 bd.2 i1 i2 m;obtain⟨f1,f2,f3,-,-,-,-⟩:=Nl i1 i2 m;obtain⟨-,-,-,y⟩:=Ada p q;generalize hN:sqd p q=N at u5 u6 u7 u8 f1 f2 f3 y a;obtain⟨px,py⟩:=p;obtain⟨qx,qy⟩:=q;obtain⟨a1,a2,a3,a4⟩:=i1;obtain⟨a5,a6,a7,a8⟩:=i2;dsimp only at *
  let⟨dx,T⟩:=gN (qx-px)
  let⟨dy,W⟩:=gN (qy-py)
  have s1:=Na (d:=dx) (M:=2097152) (by omega) (by omega);have s2:=Na (d:=dy) (M:=2097152) (by omega) (by omega);rw[T,W]at y;rw[T]at u3 u4' u7 u8 a;rw[W]at u1 u2 u5 u6 a;let⟨X,hX⟩:=gN (dx*dx)
  let⟨Y,hY⟩:=gN (dy*dy)
  let⟨U,hU⟩:=gN (c*dy)
  let⟨U',b8⟩:=gN (-c*dx)
  rw[hX]at s1 y;rw[hY]at s2 y;rw[hU]at u1 u2 u5 u6 a;rw[b8]at u3 u4' u7 u8 a;generalize dc:Ca N=rt at f2 f3 u5 u6 u7 u8 a;have ev:=Ar dc;have da:∀K:World,Calls Tryz.prog 153 #[U,(rt:Int)] K (Bz K (F8 U rt)):=λK=>Z4 U rt K (by omega) (by omega) (by omega) (by omega)
  have db:∀K:World,Calls Tryz.prog 153 #[U',(rt:Int)] K (Bz K (F8 U' rt)):=λK=>Z4 U' rt K (by omega) (by omega) (by omega) (by omega)
  let⟨x',e0⟩:=gN (F8 U rt)
  let⟨y',e6⟩:=gN (F8 U' rt)
  rw[e0]at da a;rw[e6]at db a;have W1:IntKind.i64.wrap (qx-px)=dx:=by rw[T,IntKind.wrap_i64];omega
  have W2:IntKind.i64.wrap (qy-py)=dy:=by rw[W,IntKind.wrap_i64];omega
  have W3:IntKind.i64.wrap (sg*dk)=c:=by rw[S,IntKind.wrap_i64];omega
  have W4:IntKind.i64.wrap (dx*dx)=X:=by rw[hX,IntKind.wrap_i64];omega
  have W5:IntKind.i64.wrap (dy*dy)=Y:=by rw[hY,IntKind.wrap_i64];omega
  have W6:IntKind.i64.wrap (X+Y)=(N:Int):=by rw[<-y,IntKind.wrap_i64];omega
  have W7:IntKind.i64.wrap (c*dy)=U:=by rw[hU,IntKind.wrap_i64];omega
  have W8:IntKind.i64.wrap (-c) = -c:=by rw[IntKind.wrap_i64];omega
  have W9:IntKind.i64.wrap (-c*dx)=U':=by rw[b8,IntKind.wrap_i64];omega
  have bx:=Ar f1;clear u1 u2 u3 u4' u5 u6 u7 u8 f1 f2 f3 s1 s2 y dc e0 e6 hN hX hY hU b8 T W S bd m a1 a2 a3 a4 a5 a6 a7 a8 d1 d2;have B1:(k:Int)<(b:Int):=by omega
  have m1:=mf.2;go_upto_region 18 with fail;refine Bq λY1 I hV=>?_
  have fc:=Aq I e3;have fs:=Aq I e4;have c9:=Aq I e5;clear e1 e2 e3 e4 e5;go_upto_region 19 with fail;refine Bq λY2 t cc=>?_
  let⟨z1,z2⟩:=Vs (hV.keep t);let⟨z3,z4⟩:=Vs cc;have ca:=Aq t c9;have ch:=An hb (An I t);have cw:=OwG.keep ho (An I t);clear fc fs c9 hV cc;go_quiet (fail);clear z1 z2 z3 z4 ca W1 W2 W3;have cx:OwS (Y2.drewN nq) BZ (.slice (some ⟨BZ,0,none⟩) b b) z:=OwG.keep cw (Bd bl0 _);have h8:Be w3 (Y2.drewN nq):=Bd ch _;have v:w3.heap.size<=BZ:=Nat.le_of_eq bt.out.symm;clear cw ch ho hb
  go_wp2_with (first
   | (go_at_call 153;have ml:=Q;refine rR (db _) λw6 bc=>?_;let⟨x1,x2,y1,y2⟩:=OwS.cells (OwG.keep (OwG.keep cx Q) bc) C l)
   | (go_at_call 153;refine(da _).mono ?_;rintro e w5 ⟨rfl,Q⟩)
   | (go_at_call 152;refine(vh N _ bx.out).mono ?_;rintro e w4 ⟨rfl,rfl⟩;rw[ev.out]))
  refine⟨⟨k+1,z.set k (x',y'),by omega,by go_num,by rw[List.length_set];exact C,Ar λp h=>?_,OwS.store (OwG.keep (OwG.keep cx Q) bc) C l x' y',Ba (Ba (An (An h8 Q) bc) (p:=⟨BZ,k*2,none⟩) v _) (p:=⟨BZ,k*2+1,none⟩) v _⟩,by simp[intOf];omega⟩;rw[Lg (by rw[C];exact l)];by_cases h2:k=p
  .subst h2;rw[if_pos rfl,a.out]
  rw[if_neg h2];exact hp.out p (by omega)
 obtain rfl:b=k:=by omega
 go_wp2
 go_ret2
 rw[HR.out];refine⟨_,rfl,?_,An cj hb⟩
 have hl:Ec E o=z:=by
  unfold Ec;rw[c6.out,HD.out,c5.out];refine Gn (by rw[List.length_map,List.length_range,F.out,C]) λp h=>?_;rw[List.length_map,List.length_range,F.out]at h;rw[hp.out p h];unfold gt;rw[List.getD,List.getElem?_map,List.getElem?_range (by rw[F.out];exact h)];rfl
 rw[hl];exact ho.lower (by rw[bt.out];have:=cj.size;omega)
theorem Rm(A:Option Addr) (a n:Nat) (E:List EdgeP) (f:Option Addr) (d i:Nat) (c:List Int) (w:World) (b:n<=a) (l:n<=9223372036854775807) (g:EdS w A n E) (k:InS w f d c) :
 Calls Tryz.prog 103 #[.slice A n a,.slice f d i] w (Ng w (Ed E c)):=by
 by_cases h:C7 E=0
 .by_cases j:d=n
  .have e:Ed E c=if Bp (wdB c) d then ([],3) else (Ec E c,0):=by
    unfold Ed;rw[if_neg (by simpa using h),if_neg (by rw[g.1,k.1,j];simp),k.1]
   rw[e];exact Aom A a n E f d i c w b g k h j
  rw[show Ed E c=([],1) by unfold Ed;rw[if_neg (by simpa using h),if_pos (by rw[g.1,k.1];exact j)]];exact Aon A a n E f d i w b l g h j
 rw[show Ed E c=([],C7 E) by unfold Ed;rw[if_pos h]];exact Aoo A a n E f d i w b l g h
def enG (s:Seg):List Value:=[.int .i64 s.fx,.int .i64 s.fy,.int .i64 s.tx,.int .i64 s.ty,.int .i64 s.wd]
theorem th(s:Seg):(enG s).length=5:=rfl
def Als:Seg:=⟨0,0,0,0,0⟩
def gsg (l:List Seg) (k:Nat):Seg:=l.getD k Als
theorem Aay{l:List Seg}  (h:b<l.length):l[b]? = some (gsg l b):=by
 unfold gsg;rw[List.getD,List.getElem?_eq_getElem h];rfl
def Ahc (w:World) (a:Nat) (v:Value) (l:List Seg):Prop:=OwG 192 5 enG w a v l
theorem Aj1:(Tryz.prog.info? 192).map (λi=>(i.zero,i.size,i.bytes))=some (some (.agg #[.int .i64 0,.int .i64 0,.int .i64 0,.int .i64 0,.int .i64 0]),5,40):=by kernel_rfl
theorem O6{i:Type} {c:i->List Value}  (a:∀x,(c x).length=b) (z:i) (n:Nat) (f:Array Value) (e:f=(c z).toArray) (g:0<b):(madeCells f (n*b)).toList=(List.replicate n z).flatMap c:=by
 apply List.ext_getElem?;intro j;rcases Nat.lt_or_ge j (n*b) with d|d
 .have k:j / b<n:=Nat.div_lt_of_lt_mul (by rw[Nat.mul_comm];exact d);have h:=Bu a (List.replicate n z) (j / b) (j % b) z (by rw[List.getElem?_replicate,if_pos k]) (Nat.mod_lt _ g);rw[Nat.mul_comm,Nat.div_add_mod]at h;rw[h,e];unfold madeCells;rw[Array.getElem?_toList,Array.getElem?_map,Array.getElem?_range,if_pos d];have l:j % b<(c z).length:=by rw[a];exact Nat.mod_lt _ g
  simp[a,List.getElem?_eq_getElem l]
 rw[List.getElem?_eq_none (by rw[Array.length_toList,size_madeCells];exact d),List.getElem?_eq_none (by rw[Cz a];simpa using d)]
theorem qb(n:Nat) (f:n<=1000000):∃Z:Array Value,(∀w,(Instr.makeSlice 189 (.int .i64 (n:Int)) (.int .i64 (n:Int))).run Tryz.prog w=.ok (.slice (some ⟨w.heap.size,0,none⟩) n n) (w.alloc (.cells Z 192)))/\∀w:World,Ahc (w.alloc (.cells Z 192)) w.heap.size (.slice (some ⟨w.heap.size,0,none⟩) n n) (List.replicate n Als):=by
 let⟨i,e,a,b,c⟩:=info_parts Aj1;refine⟨madeCells (Value.agg #[.int .i64 0,.int .i64 0,.int .i64 0,.int .i64 0,.int .i64 0]).cells (n*5),λw=>?_,λw=>?_⟩
 .have d:=run_make (P:=Tryz.prog) w 189 192 i (.agg #[.int .i64 0,.int .i64 0,.int .i64 0,.int .i64 0,.int .i64 0]) Tryz.underlying189 e a .i64 .i64 n n (by omega) (by omega) (by rw[c];omega) (by omega);rw[b]at d;simpa using d
 unfold Ahc OwG;rw[List.length_replicate,<-O6 th Als n (Value.agg #[.int .i64 0,.int .i64 0,.int .i64 0,.int .i64 0,.int .i64 0]).cells (by kernel_rfl) (by omega)];exact World.ownsRow_lit w _ n (Nat.le_refl _) (by unfold maxLen;omega) (size_madeCells _ _)
theorem Ahc.cells{w:World} {d n:Nat} {l:List Seg} (h:Ahc w b (.slice (some ⟨j,0,none⟩) n d) l) (i:l.length=n) {k:Nat} (f:k<n):Cq w j (k*5) (gsg l k).fx/\Cq w j (k*5+1) (gsg l k).fy/\Cq w j (k*5+2) (gsg l k).tx/\Cq w j (k*5+3) (gsg l k).ty/\Cq w j (k*5+4) (gsg l k).wd/\∀a,w.frozen? ⟨j,k*5+a,none⟩=false:=by
 subst i;have g:=Aay f
 have c:∀a,a<5->w.cell? ⟨j,k*5+a,none⟩=(enG (gsg l k))[a]? := λa e=>by
  rw[OwG.cells h (k*5+a) (by omega),Bu th l k a _ g e]
 exact⟨(c 0 (by omega)).trans rfl,(c 1 (by omega)).trans rfl,(c 2 (by omega)).trans rfl,(c 3 (by omega)).trans rfl,(c 4 (by omega)).trans rfl,λa=>OwG.frozen h _⟩
theorem sf{l:List Seg}  (s:Seg):(((((l.flatMap enG).set (b*5) (.int .i64 s.fx)).set (b*5+1) (.int .i64 s.fy)).set (b*5+2) (.int .i64 s.tx)).set (b*5+3) (.int .i64 s.ty)).set (b*5+4) (.int .i64 s.wd)=(l.set b s).flatMap enG:=by
 induction l generalizing b with
 | nil=>simp
 | cons a l ih =>
   cases b with
   | zero=>simp[enG,List.flatMap_cons]
   | succ b =>
     rw[List.set_cons_succ,List.flatMap_cons,List.flatMap_cons,<-ih];simp only[enG,List.cons_append,List.nil_append];rw[show (b+1)*5=b*5+1+1+1+1+1 by omega];simp[show b*5+1+1+1+1+1+1=(b*5+1)+1+1+1+1+1 by omega,show b*5+1+1+1+1+1+2=(b*5+2)+1+1+1+1+1 by omega,show b*5+1+1+1+1+1+3=(b*5+3)+1+1+1+1+1 by omega,show b*5+1+1+1+1+1+4=(b*5+4)+1+1+1+1+1 by omega]
def Aop (w:World) (g o:Nat) (s:Seg):World:=((((w.setCell ⟨g,o,none⟩ (.int .i64 s.fx)).setCell ⟨g,o+1,none⟩ (.int .i64 s.fy)).setCell ⟨g,o+2,none⟩ (.int .i64 s.tx)).setCell ⟨g,o+3,none⟩ (.int .i64 s.ty)).setCell ⟨g,o+4,none⟩ (.int .i64 s.wd)
theorem Ahc.store{w:World} {a n:Nat} {l:List Seg} (h:Ahc w b (.slice (some ⟨j,0,none⟩) n a) l) (i:l.length=n) (k:Nat) (s:Seg):Ahc (Aop w j (k*5) s) b (.slice (some ⟨j,0,none⟩) n a) (l.set k s):=by
 subst i;have d:=(World.ownsRow.stored h (k*5) (.int .i64 s.fx)).1;have e:=(World.ownsRow.stored d (k*5+1) (.int .i64 s.fy)).1;have f:=(World.ownsRow.stored e (k*5+2) (.int .i64 s.tx)).1;have g:=(World.ownsRow.stored f (k*5+3) (.int .i64 s.ty)).1;have c:=(World.ownsRow.stored g (k*5+4) (.int .i64 s.wd)).1;rw[sf]at c;unfold Ahc OwG;rw[List.length_set];exact c
theorem Agf{l:List Seg}  {x:Seg} (a:b<l.length):gsg (l.set b x) j=if b=j then x else gsg l j:=by
 unfold gsg;rw[List.getD,List.getElem?_set];by_cases e:b=j
 .subst e;simp[a]
 simp[e]
end Go.Proofs.YtlogblbfbihleaaGreat
