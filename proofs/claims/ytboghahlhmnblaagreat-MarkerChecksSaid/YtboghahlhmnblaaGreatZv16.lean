/- Lean texts of the claim. -/
import Derived.Test.YtboghahlhmnblaaGreatZv12
namespace Go.Proofs.YtboghahlhmnblaaGreat
set_option linter.all false
set_option maxRecDepth 100000
set_option maxHeartbeats 0
open Go.RowKit Go.Proofs.Tryz
variable{a:World}{b n:Value}{c i k l:Nat}{e m:Rat}{f:TypeId}{g:Array Value}{h:Option Addr}{j:Bool}{D:Option Addr}{z:Rat}{vc vd:Value}{w2:World}
section
open Go.RowKit Limb
theorem O9{w:World}{d:Nat}{O P:Value}(p:Bool)(hz:Ce w c O k)(W:Ce w i P d)(M:Sm k)(L:Sm d)(G:d≠0):Calls prog 222 #[.bool p,O,P] w (Xi w (mkRat (sg p k) d)):=by
 let⟨E,x,N⟩:=R9 (n:=sg p k) G;rw[ku]at E x;have I:0<Nat.gcd k d:=Nat.gcd_pos_of_pos_right _ (Nat.pos_of_ne_zero G);have u:Sm (Nat.gcd k d):=L.le (Nat.gcd_le_right _ (Nat.pos_of_ne_zero G));have m:=Ar (Aiy (b:=p) E N λh=>aZ h (Nat.div_le_self _ _));generalize hr:mkRat (sg p k) d=r at x m ⊢;clear hr;generalize A:Nat.gcd k d=g at E x I u m;have S:=Ar A;have F:=Ar x;have K:Sm (k / g):=M.le (Nat.div_le_self _ _);clear E x N A;go_in;go_upto_region 1 with fail;refine Bq λX q H=>?_
 have D:=hz.keep q;have z:=W.keep q;have B:=H.lt
 go_wp2_with (first
  | (go_at_call 228;have a1:=j;refine(Af5 p (hq2.keep j) K).mono ?_;rintro e w4 ⟨v4,rfl,⟨m4,rfl,s⟩,y⟩;obtain⟨R,n4,V,rfl⟩:=s.sl;obtain⟨Q,n3,U,rfl⟩:=C.sl;have o:=An (An (An a f) j) y;let⟨r0,r1,r2,f0,f1,f2,lt⟩:=(H.keep o).triple)
  | (go_at_call 230;have Z:=f;refine(Aab ((z.keep a).keep f) (t.keep f) L u I).mono ?_;rintro e w3 ⟨q3,r3,rfl,C,a8,j⟩)
  | (go_at_call 230;have Y:=a;refine(Aab (D.keep a) t M u I).mono ?_;rintro e w2 ⟨q2,r2,rfl,hq2,a7,f⟩;obtain⟨A2,n2,c2,rfl⟩:=hq2.sl)
  | (go_at_call 291;refine aF (Amg D z M L) λw1 v1 t a=>?_;rw[S.out]at t))
 have J:=m.out;rw[J]at s ⊢;have l:=C.keep y;rw[<-F.out]at l;let⟨s0,K,s2,T⟩:=Dn (w:=w) (H.keep o) (s.lower j.size) l (aZ B (An a f).size) (hw:=aA) (An q o);exact bR T rfl (by simp[results,results222,go_sem,s0,K,s2])
theorem jof(n:Int){w:World}(D : -4611686018427387904<=n)(E:n<=4611686018427387904):Calls prog 234 #[n] w (wm w n):=by
 let⟨a,f⟩:=gN n.natAbs
 have p:a<18446744073709551616:=aK
 have h:=Ar f;by_cases t:n<0
 .have q:IntKind.i64.wrap (n+1)=n+1:=aD
  have C:IntKind.u64.wrap (-(n+1)+1)=(a:Int):=by rw[dG];omega
  go_in;go_upto_region 2 with fail;refine Bq λX g d=>?_
  go_wp2_with (go_at_call 229;refine aF (All a p) λz y c b=>?_;obtain⟨l,o,m,rfl⟩:=c.sl;let⟨u,x,r,s,lt⟩:=(d.keep b).pair)
  rw[<-h.out]at c;let⟨j,k,i⟩:=Gd (w:=w) (d.keep b) c d.lt (hw:=aA) (An g b);rw[bV t]at j k i;exact bR i rfl (by simp[results,results234,go_sem,j,k])
 have q:IntKind.u64.wrap n=(a:Int):=by rw[dG];omega
 go_in;go_upto_region 3 with fail;refine Bq λX g d=>?_
 go_wp2_with (go_at_call 229;refine aF (All a p) λz y c b=>?_;obtain⟨l,o,m,rfl⟩:=c.sl;let⟨u,x,r,s,lt⟩:=(d.keep b).pair)
 rw[<-h.out]at c;let⟨j,k,i⟩:=Gd (w:=w) (d.keep b) c d.lt (hw:=aA) (An g b);rw[decide_eq_false (show ¬n<0 by omega)]at j k i;exact bR i rfl (by simp[results,results234,go_sem,j,k])
theorem Adw(n:Int){w:World}(t: -4611686018427387904<=n:=by omega)(u:n<=4611686018427387904:=by omega):Calls prog 176 #[n] w (Xi w (n:Rat)):=by
 let⟨z,g⟩:=gN ((n:Rat):Rat)
 have k:z.num=n:=by rw[<-g];rfl
 have l:z.den=1:=by rw[<-g];rfl
 rw[g];have j:=Ar k;have p:=Ar l;clear g k l;go_in;go_upto_region 1 with fail;refine Bq λX i h=>?_
 go_wp2_with (first
  | (go_at_call 229;refine aF (All 1 aK) λM K c f=>?_;obtain⟨o,y,s,rfl⟩:=c.sl;have a:=An d f;let⟨G,H,I,C,D,E,lt⟩:=(h.keep a).triple)
  | (go_at_call 234;refine(jof n t u).mono ?_;rintro e L ⟨J,rfl,⟨F,rfl,b⟩,d⟩;obtain⟨m,x,r,rfl⟩:=b.sl))
 rw[<-j.out]at b;rw[<-p.out]at c;let⟨A,B,s2,q⟩:=Dn (w:=w) (h.keep a) (b.keep f) (c.lower d.size) h.lt (hw:=aA) (An i a);rw[<-j.out];exact bR q rfl (by simp[results,results176,go_sem,A,B,s2])
theorem Aal{w:World}{x:Rat}{vx:Value}(I:Ib w c vx x)(z:RB 600 x):Calls prog 220 #[vx] w (Bz w (.bool (decide (x.num=0)))):=by
 let⟨t,E⟩:=Qe z;obtain⟨m,d,rfl,j,q⟩:=I;obtain⟨R,Y,U,rfl⟩:=j.sl;obtain⟨S,Z,V,rfl⟩:=q.sl;generalize L:decide (x.num<0)=p;have i:=x.den_nz;let⟨a,B⟩:=gN x.num.natAbs
 let⟨b,C⟩:=gN x.den
 rw[B]at j t;rw[C]at q E i
 have y:Hid (decide (x.num=0)=decide ((lmb a).length=0)):=Ar (decide_eq_decide.2 (by
  by_cases h:a=0
  .rw[h,Cb];exact⟨λ_=>rfl,λ_=>by omega⟩
  rw[D6 h];exact⟨λe=>absurd (show a=0 by omega) h,λe=>by simp at e⟩))
 have u:Hid (0<(lmb b).length):=Ar (by rw[D6 i];simp);clear L B C i z;rw[y.out];let⟨k,r⟩:=gN ((lmb a).length)
 let⟨l,D⟩:=gN ((lmb b).length)
 have v:=Ar r;have G:=Ar D;have s:¬((l:Int)=0):=by have:=u.out;omega
 rw[r];clear r D u y;go_in;go_upto_region 1 with fail;refine Bq λX g A=>?_
 obtain⟨p0,p1,p2,-⟩:=A.triple;by_cases n:k=0
 .subst n
  go_wp2_with (go_at_call 290;refine(xl (j.keep g) t).mono ?_;rintro e Q ⟨P,rfl,⟨F,H,rfl,-⟩,f⟩;rw[v.out])
  go_ret;exact⟨rfl,An g f⟩
 have K:¬((k:Int)=0):=aK
 have hq:((k:Int) == 0)=false:=by simpa using n
 have hq2:((l:Int) == 0)=false:=by simpa using s
 go_wp2_with (first
  | (go_at_call 290;have J:=f;refine(xl ((q.keep g).keep f) E).mono ?_;rintro e w2 ⟨v2,rfl,⟨T,W,rfl,-⟩,o⟩;rw[G.out])
  | (go_at_call 290;refine(xl (j.keep g) t).mono ?_;rintro e Q ⟨P,rfl,⟨F,H,rfl,-⟩,f⟩;rw[v.out];obtain⟨M,N,O,-⟩:=(A.keep f).triple))
 go_ret;exact⟨by rw[decide_eq_false n];rfl,An g (An f o)⟩
end
section
open Go.RowKit Limb
theorem Aam{w:World}{x:Rat}{vx:Value}(G:Ib w c vx x)(y:RB 600 x):Calls prog 221 #[vx] w (Xi w x):=by
 have r:=G;let⟨sn,Z⟩:=Qe y;obtain⟨m,d,rfl,I,H⟩:=G;obtain⟨A1,n1,c1,rfl⟩:=I.sl;obtain⟨A2,n2,c2,rfl⟩:=H.sl;have E:=Ar (show mkRat (sg (decide (x.num<0)) x.num.natAbs) x.den=x by rw[I7];exact Rat.mkRat_self x);have K:=Ar x.den_nz;have j:=r;generalize Q:decide (x.num<0)=p at E j ⊢;clear Q r;go_in;go_upto_region 1 with fail;refine Eo λX f F q=>?_
 obtain⟨p0,p1,p2,-⟩:=F.triple;have i:=q.lt;by_cases n:x.num=0
 .have J:((0:Int):Rat)=x:=by rw[Rat.num_eq_zero.1 n];rfl
  have L:=Ar J;have l:=bV n;clear J n
  go_upto_region 2 with (go_at_call 220;refine rR (Aal (j.keep f) y) λw1 a=>?_;rw[l])
  go_wp2_with (go_at_call 176;refine aF (Adw 0) λw2 v2 o k=>?_;rw[L.out]at o;obtain⟨R,M,rfl,h,g⟩:=o;obtain⟨t,n4,A,rfl⟩:=h.sl;obtain⟨s,B,z,rfl⟩:=g.sl;have b:=An a k;let⟨V,W,Y,N,O,P,lt⟩:=(q.keep b).triple)
  let⟨C,D,s2,u⟩:=Dn (w:=w) (q.keep b) h g (aZ i a.size) (An f b);exact bR u rfl (by simp[results,results221,go_sem,C,D,s2])
 have l:=decide_eq_false n;clear n
 go_upto_region 3 with (go_at_call 220;refine rR (Aal (j.keep f) y) λw1 a=>?_;rw[l])
 obtain⟨S,T,U,-⟩:=(F.keep a).triple
 go_wp2_with (go_at_call 222;refine aF (O9 p ((I.keep f).keep a) ((H.keep f).keep a) sn Z K.out) λw2 v2 o k=>?_;rw[E.out]at o;obtain⟨R,M,rfl,h,g⟩:=o;obtain⟨t,n4,A,rfl⟩:=h.sl;obtain⟨s,B,z,rfl⟩:=g.sl;have b:=An a k;let⟨V,W,Y,N,O,P,lt⟩:=(q.keep b).triple)
 let⟨C,D,s2,u⟩:=Dn (w:=w) (q.keep b) h g (aZ i a.size) (An f b);exact bR u rfl (by simp[results,results221,go_sem,C,D,s2])
end
section
open Go.RowKit Limb
theorem Amk{w:World}{o b a c:Obj}:Bf (((((w.alloc o).alloc b).alloc a).alloc c).alloc (.cells g f)) (w+1+1+1+1) f g:=by
 have h:=Bf.new ((((w.alloc o).alloc b).alloc a).alloc c) f g;simpa using h
theorem c24{w:World}{h j m o p q r s t u v x y z A B C D E F G H:Value}(a:Bf w c f #[b,n,h,j,m,o])(d:Bf w i f #[p,q,r,s,t,u])(e:Bf w k f #[v,x,y,z,A,B])(g:Bf w l f #[C,D,E,F,G,H]):
 Cq w c 0 b/\Cq w c 1 n/\Cq w c 2 h/\Cq w c 3 j/\Cq w c 4 m/\Cq w c 5 o/\Cq w i 0 p/\Cq w i 1 q/\Cq w i 2 r/\Cq w i 3 s/\Cq w i 4 t/\Cq w i 5 u/\Cq w k 0 v/\Cq w k 1 x/\Cq w k 2 y/\Cq w k 3 z/\Cq w k 4 A/\Cq w k 5 B/\Cq w l 0 C/\Cq w l 1 D/\Cq w l 2 E/\Cq w l 3 F/\Cq w l 4 G/\Cq w l 5 H :=
 ⟨(a.cell 0).trans rfl,(a.cell 1).trans rfl,(a.cell 2).trans rfl,(a.cell 3).trans rfl,(a.cell 4).trans rfl,(a.cell 5).trans rfl,(d.cell 0).trans rfl,(d.cell 1).trans rfl,(d.cell 2).trans rfl,(d.cell 3).trans rfl,(d.cell 4).trans rfl,(d.cell 5).trans rfl,(e.cell 0).trans rfl,(e.cell 1).trans rfl,(e.cell 2).trans rfl,(e.cell 3).trans rfl,(e.cell 4).trans rfl,(e.cell 5).trans rfl,(g.cell 0).trans rfl,(g.cell 1).trans rfl,(g.cell 2).trans rfl,(g.cell 3).trans rfl,(g.cell 4).trans rfl,(g.cell 5).trans rfl⟩
theorem Ce.farB3{w:World}{v y e:Nat}(C:Ce w c b i)(I:Bf w k f #[.bool j,.slice h l v,.slice D y e])(z:Bool)(u J:Value):Ce (((w.setCell ⟨k,0,none⟩ (.bool z)).setCell ⟨k,1,none⟩ u).setCell ⟨k,2,none⟩ J) c b i:=by
 obtain⟨t,A,B,E,F,r,G,H⟩:=C;refine⟨t,A,B,E,F,?_,G,H⟩;rcases bK (lmb i).length with o|o
 .exact⟨r.1,.inl o⟩
 have a:∀q,t=some q->q.block≠k:=by
  intro q hq n;let⟨K,L,d,s⟩:=r.at_ o;rw[hq]at d;injection d with d
  rw[d]at n;dsimp only at n;subst n;replace s:=(I.cell _).symm.trans s
  have:∀(m:Nat) (x:Int),(#[Value.bool j,Value.slice h l v,Value.slice D y e]:Array Value)[m]? = some (Value.int .u32 x)->False:=by
   intro m x g
   match m with
   | 0=>simp at g
   | 1=>simp at g
   | 2=>simp at g
   | m+3=>simp at g
  exact this _ _ s
 exact((r.far (p:=⟨k,0,none⟩) a _).far (p:=⟨k,1,none⟩) a _).far (p:=⟨k,2,none⟩) a _
section
variable {w : World} {g : Nat} {t : TypeId} {cs : Array Value}
class KI (w:World) (g:outParam Nat) (t:TypeId) (cs:outParam (Array Value)):Prop where
 h:Bf w g t cs
instance:KI (w.alloc (.cells cs t)) w.heap.size t cs:=⟨Bf.new _ _ _⟩
instance {o:Obj} [i:KI w g t cs]:KI (w.alloc o) g t cs:=⟨i.h.alloc _⟩
instance [i:KI w g t cs]:KI w.drew g t cs:=⟨Bf.drew i.h⟩
theorem KI.go[i:KI w g t cs](h:Be w w2):KI w2 g t cs:=⟨i.h.keep h⟩
end
theorem Ahw{P:Program}{c:Code}{Q:Exit->Act->World->Prop}{a:Act}{w:World}{j k l m:TypeId}{b d e i:Array Value}(h:∀X,Be w X->Bf X w f g->Bf X (w+1) j b->Bf X (w+1+1) k d->Bf X (w+1+1+1) l e->Bf X (w+1+1+1+1) m i->c.wp P Q a X):c.wp P Q a (((((w.alloc (.cells g f)).alloc (.cells b j)).alloc (.cells d k)).alloc (.cells e l)).alloc (.cells i m)):=h _ (Ao (Ao (Ao (Ao blA)))) (Bf.alloc (Bf.alloc (Bf.alloc (Bf.alloc (Bf.new _ _ _) _) _) _) _) (Bf.alloc (Bf.alloc (Bf.alloc (Bf.new2 _ _ _ _) _) _) _) (Bf.alloc (Bf.alloc (Bf.new3 _ _ _ _ _) _) _) (Bf.alloc (Ajh) _) (Amk)
theorem Limb.RB.w(h:RB 22 e):RB 600 e:=h.le aM
theorem Limb.RB.d(h:RB 22 e)(k:RB 22 z):RB 300 (e-z):=(RB.sub (m:=22) (n:=22) h k).le aM
theorem Limb.RB.x{b c d a f g h:Rat}(i:RB 22 e)(j:RB 22 b)(k:RB 22 c)(l:RB 22 d)(o:RB 22 a)(p:RB 22 f)(q:RB 22 g)(r:RB 22 h):RB 181 ((e-b)*(c-d)-(a-f)*(g-h)):=RB.sub (m:=45+45) (n:=45+45) ((RB.sub (m:=22) (n:=22) i j).mul (RB.sub (m:=22) (n:=22) k l)) ((RB.sub (m:=22) (n:=22) o p).mul (RB.sub (m:=22) (n:=22) q r))
theorem Ib.farB3{w:World}{q a:Nat}(n:Ib w c b e)(g:Bf w i f #[.bool j,.slice h k l,.slice D q a])(r:Bool)(u s:Value):Ib (((w.setCell ⟨i,0,none⟩ (.bool r)).setCell ⟨i,1,none⟩ u).setCell ⟨i,2,none⟩ s) c b e:=by
 obtain⟨m,d,a,o,p⟩:=n;exact⟨m,d,a,o.farB3 g _ _ _,p.farB3 g _ _ _⟩
def Ak8(w:World)(b g i a N D:Rat)(e:Ending)(h:World):Prop:=∃p A n c B k d q C m l E o f,e=.returned (.tuple #[.agg #[.bool p,.slice A n c,.slice B k d,.bool q,.slice C m l,.slice E o f],.int .i64 (if D.num=0 then 10 else 0)])/\(D.num≠0->PtV h w (.agg #[.bool p,.slice A n c,.slice B k d,.bool q,.slice C m l,.slice E o f]) (b+(i-b)*(N / D)) (g+(a-g)*(N / D)))/\Be w h
theorem Ama{w:World}{Z bx s cx cy dx dy N D:Rat}(T:PtV w c b e Z)(hB:PtV w c n bx s)(hC:PtV w c vc cx cy)(I:PtV w c vd dx dy)(B:RB 22 e)(C:RB 22 Z)(U:RB 22 bx)(V:RB 22 s)(r:RB 22 cx)(H:RB 22 cy)(r7:RB 22 dx)(r8:RB 22 dy)(hN:(cx-e)*(dy-cy)-(cy-Z)*(dx-cx)=N)(hD:(bx-e)*(dy-cy)-(s-Z)*(dx-cx)=D):Calls prog 202 #[b,n,vc,vd] w (Ak8 w e Z bx s N D):=by
 obtain⟨ni,eg,ly,hf,ek,mf,hg,nj,eo,mm,hh,er,mo,hj,rfl⟩:=T.sh;obtain⟨nk,ev,mr,hl,ew,mv,hn,nq,ey,mx,ho,fa,my,hr,rfl⟩:=hB.sh;obtain⟨nr,fb,mz,hs,fc,n0,ht,ns,fr,n5,hv,fs,n9,hx,rfl⟩:=hC.sh;obtain⟨nv,fv,na,hy,gf,nc,ih,nx,gx,nd,im,gy,nf,ix,rfl⟩:=I.sh;have tN:=hN ▸ RB.x r B r8 H H C r7 r;have tD:=hD ▸ RB.x U B r8 H V C r7 r;have HN:=Ar hN;have HD:=Ar hD;let⟨z,hz⟩:=gN (!decide (D.num=0))
 have HZ:=Ar hz;clear hN hD hz;go_in;go_upto_region 1 with fail;refine Ahw λX y i j o ai F=>?_
 obtain⟨y0,y1,y2,y3,y4,y5⟩:=cells6 ai;obtain⟨z0,z1,z2,z3,z4,z5⟩:=cells6 o
 go_upto_region 2 with (go_at_call 205;refine aF (Ai9 (I.keep y) (hC.keep y) r7.w r8.w r.w H.w) λw1 v1 h1 K=>?_;obtain⟨pw,W1,u1,k1,W2,u2,k2,qw,W3,u3,k3,W4,u4,k4,rfl⟩:=h1.sh)
 refine Bq λY O hW=>?_
 let⟨gw,P⟩:=gN w1.heap.size
 have lk:w.heap.size+1+1+1+1<gw:=by rw[<-P];exact aZ F.lt K.size
 have f:=An K O;have q:=An y f;have ak:=(h1.keep O).lower aB;replace i:=i.keep f;replace j:=j.keep f;replace o:=o.keep f;replace F:=F.keep f;replace T:=T.keep q;replace hB:=hB.keep q;replace hC:=hC.keep q;rw[P]at hW ⊢;clear y K O f I h1 ai y0 y1 y2 y3 y4 y5 z0 z1 z2 z3 z4 z5 P;go_cut [11,12] λu v W=>∃g p A cm ds E k l,u=.pointer (some ⟨g,0,none⟩)/\v=.bool z/\(D.num≠0->Ib W 0 (.agg #[.bool p,.slice A cm ds,.slice E k l]) (N / D))/\Bf W g 184 #[.bool p,.slice A cm ds,.slice E k l]/\Y.heap.size<=g/\Be Y W
 case first =>
  go_region_held3 (sB λW h=>c24 (i.keep h) (j.keep h) (o.keep h) (hW.keep h))
   (exact c24 (i.keep BI.h) (j.keep BI.h) (o.keep BI.h) (hW.keep BI.h))
   ((first
     | (go_at_call 256;have l0:=h5;refine(Al8 (h3.keep BI.h) (h5.keep BI.h) (tN.le aM) (tD.le aM)).2.2.mono ?_;rintro S w6 ⟨p6,A6,n6,c6,E6,k6,l6,rfl,h6,b6⟩;rw[HZ.out];have l5:=BI.go (a:=Y) b6;(try (have R:=KI.go (t:=184) b6;obtain⟨j1,j2,j3,j4,j5,j6,j7⟩:=R.h.triple)))
     | (go_at_call 257;have kz:=h4;refine aF (Adl (h4.keep BI.h) (ak.keep BI.h) (U.d B) (V.d C) (r7.d r) (r8.d H)) λw5 v5 h5 M=>?_;rw[HD.out]at h5;have l4:=BI.go (a:=Y) M;have lf:=BI.go (a:=w3) M;(try have R:=KI.go (t:=184) M))
     | (go_at_call 205;have kr:=h3;refine aF (Ai9 (hB.keep BI.h) (T.keep BI.h) U.w V.w B.w C.w) λw4 v4 h4 L=>?_;have l3:=BI.go (a:=Y) L;have lb:=BI.go (a:=w3) L;(try have R:=KI.go (t:=184) L))
     | (go_at_call 257;refine aF (Adl (h2.keep BI.h) (ak.keep BI.h) (r.d B) (H.d C) (r7.d r) (r8.d H)) λw3 v3 h3 aw=>?_;rw[HN.out]at h3;have l2:=BI.go (a:=Y) aw;(try have R:=KI.go (t:=184) aw))
     | (go_at_call 205;refine aF (Ai9 (hC.keep BI.h) (T.keep BI.h) r.w H.w B.w C.w) λw2 v2 h2 au=>?_;have l1:=BI.go (a:=Y) au;(try have R:=KI.go (t:=184) au))))
  all_goals go_wp2
  all_goals go_meet
  all_goals (first
   | exact⟨_,p6,A6,n6,c6,E6,k6,l6,rfl,rfl,λh=>((h6 h).lower aB).keep blA,Bf.new _ _ _,LI.h,BI.h⟩
   | exact⟨_,p6,A6,n6,c6,E6,k6,l6,rfl,rfl,λh=>((h6 h).lower aB).farB3 R.h _ _ _,R.h.set3,LI.h,BI.h⟩)
 obtain⟨g,p6,A6,n6,c6,E6,k6,l6,rfl,rfl,hT,hG,lg,d⟩:=hcut;have cf:=An q d;have cg:=F.lt;have J:=F.keep d;by_cases G:D.num=0
 .obtain⟨r0,B,C,U,V,r⟩:=cells6 J;obtain⟨f0,f1,f2,f3,f4,f5,c0⟩:=fq J;have H0:=Ar G;obtain rfl:z=false:=HZ.out.symm.trans (by rw[bV G];rfl);clear G hT;go_wp2_with fail;obtain⟨s0,s1,s2,s3,s4,s5⟩:=cells6 (J.set6 (a':=.bool false) (b':=.slice none 0 0) (c':=.slice none 0 0) (d':=.bool false) (e':=.slice none 0 0) (f':=.slice none 0 0));exact cB (v:=.tuple #[.agg #[.bool false,.slice none 0 0,.slice none 0 0,.bool false,.slice none 0 0,.slice none 0 0],.int .i64 10]) (by simp[results,results202,go_sem,s0,s1,s2,s3,s4,s5]) rfl ⟨_,_,_,_,_,_,_,_,_,_,_,_,_,_,by rw[if_pos H0.out],λh=>absurd H0.out h,Xl cf⟩
 replace hT:=hT G;have tT:=(RB.div (m:=181) (n:=181) tN tD G).le (show _<=390 by decide);have H0:=Ar G;obtain rfl:z=true:=HZ.out.symm.trans (by rw[decide_eq_false G];rfl);clear G;obtain⟨a0,a1,a2,a3,a4,a5⟩:=cells6 (i.keep d);obtain⟨b0,b1,b2,b3,b4,b5⟩:=cells6 (j.keep d);obtain⟨g0,g1,g2,-,-,-,-⟩:=hG.triple
 go_wp2_with (go_at_call 258;refine aF (pon (T.keep d) (hB.keep d) hT (B.le aM) (C.le aM) (U.le aM) (V.le aM) tT) λw7 v7 h7 cd=>?_;obtain⟨p7,B1,n1,e1,B2,n2,e2,p8,B3,n3,e3,B4,n4,e4,rfl⟩:=h7.sh;have x:=An d cd;obtain⟨r0,B,C,U,V,r⟩:=cells6 (F.keep x);obtain⟨f0,f1,f2,f3,f4,f5,c0⟩:=fq (F.keep x))
 obtain⟨hZ,v9,Q,bs,bq⟩:=K8 (w:=w) (F.keep x) h7.ab.1 h7.ab.2 (aZ cg d.size) (An q x);injection Q with Q
 obtain⟨s0,s1,s2,s3,s4,s5⟩:=cells6 hZ;exact cB (v:=.tuple #[.agg #[.bool p7,.slice B1 n1 e1,.slice B2 n2 e2,.bool p8,.slice B3 n3 e3,.slice B4 n4 e4],.int .i64 0]) (by simp[results,results202,go_sem,s0,s1,s2,s3,s4,s5]) rfl ⟨_,_,_,_,_,_,_,_,_,_,_,_,_,_,by rw[if_neg H0.out],λ_=>by rw[Q];exact bs,bq⟩
end
section
open Go.RowKit Limb
def Two(X:World)(x y:Rat)(u v:Value)(W:World):Prop:=∃(g h:Nat) (A:Option Addr) (a e:Nat) (B:Option Addr) (b f:Nat) (C:Option Addr) (c i:Nat) (D:Option Addr) (d j:Nat),
 u=.pointer (some ⟨g,0,none⟩)/\v=.pointer (some ⟨h,0,none⟩)/\Bf W g 184 #[.bool (decide (x.num<0)),.slice A a e,.slice B b f]/\Bf W h 184 #[.bool (decide (y.num<0)),.slice C c i,.slice D d j] /\
 Ce W 0 (.slice A a e) x.num.natAbs/\Ce W 0 (.slice B b f) x.den/\Ce W 0 (.slice C c i) y.num.natAbs/\Ce W 0 (.slice D d j) y.den/\X.heap.size<=g/\X.heap.size<=h/\Be X W
section
variable {X w : World} {x y : Rat} {A B C D : Option Addr} {a a' b b' c c' d d' g h : Nat} {p q : Bool} {A0 B0 C0 D0 : Option Addr} {a0 a1 b0 b1 c0 c1 d0 d1 : Nat} (h1 : Ce w 0 (.slice A a a') x.num.natAbs) (h2 : Ce w 0 (.slice B b b') x.den) (h3 : Ce w 0 (.slice C c c') y.num.natAbs) (h4 : Ce w 0 (.slice D d d') y.den) (hb : Be X w)
abbrev rx(x:Rat)(A:Option Addr)(a a':Nat)(B:Option Addr)(b b':Nat):Array Value:=#[.bool (decide (x.num<0)),.slice A a a',.slice B b b']
abbrev st3(w:World)(g:Nat)(x:Rat)(A:Option Addr)(a a':Nat)(B:Option Addr)(b b':Nat):World:=((w.setCell ⟨g,0,none⟩ (.bool (decide (x.num<0)))).setCell ⟨g,1,none⟩ (.slice A a a')).setCell ⟨g,2,none⟩ (.slice B b b')
include h1 h2 h3 h4 hb
theorem Aoe:Two X x y (.pointer (some ⟨w,0,none⟩)) (.pointer (some ⟨w+1,0,none⟩)) ((w.alloc (.cells (rx x A a a' B b b') 184)).alloc (.cells (rx y C c c' D d d') 184)):=by
 have k:=Ao (Ao (aV w w) (o:=.cells (rx x A a a' B b b') 184)) (o:=.cells (rx y C c c' D d d') 184);exact⟨_,_,A,a,a',B,b,b',C,c,c',D,d,d',rfl,rfl,(Bf.new _ _ _).alloc _,Bf.new2 _ _ _ _,h1.keep k,h2.keep k,h3.keep k,h4.keep k,hb.size,Nat.le_succ_of_le hb.size,Ao (Ao hb)⟩
theorem Alv:Two X x y (.pointer (some ⟨w+1,0,none⟩)) (.pointer (some ⟨w,0,none⟩)) ((w.alloc (.cells (rx y C c c' D d d') 184)).alloc (.cells (rx x A a a' B b b') 184)):=by
 have k:=Ao (Ao (aV w w) (o:=.cells (rx y C c c' D d d') 184)) (o:=.cells (rx x A a a' B b b') 184);exact⟨_,_,A,a,a',B,b,b',C,c,c',D,d,d',rfl,rfl,Bf.new2 _ _ _ _,(Bf.new _ _ _).alloc _,h1.keep k,h2.keep k,h3.keep k,h4.keep k,Nat.le_succ_of_le hb.size,hb.size,Ao (Ao hb)⟩
theorem Ank(k:Bf w g 184 #[.bool p,.slice A0 a0 a1,.slice B0 b0 b1])(hg:X.heap.size<=g):Two X x y (.pointer (some ⟨g,0,none⟩)) (.pointer (some ⟨w,0,none⟩)) ((st3 w g x A a a' B b b').alloc (.cells (rx y C c c' D d d') 184)):=by
 have s:(st3 w g x A a a' B b b').heap.size=w.heap.size:=by simp[st3]
 have k':Bf (st3 w g x A a a' B b b') g 184 (rx x A a a' B b b'):=k.set3;have f:=Ao (aV _ (st3 w g x A a a' B b b')) (o:=.cells (rx y C c c' D d d') 184);have n:=Bf.new (st3 w g x A a a' B b b') 184 (rx y C c c' D d d');rw[s] at n;exact⟨_,_,A,a,a',B,b,b',C,c,c',D,d,d',rfl,rfl,k'.alloc _,n,(h1.farB3 k _ _ _).keep f,(h2.farB3 k _ _ _).keep f,(h3.farB3 k _ _ _).keep f,(h4.farB3 k _ _ _).keep f,hg,hb.size,Ao (Dw hb (hg:=hg))⟩
theorem Ah3(k:Bf w g 184 #[.bool p,.slice A0 a0 a1,.slice B0 b0 b1])(hg:X.heap.size<=g):Two X x y (.pointer (some ⟨w,0,none⟩)) (.pointer (some ⟨g,0,none⟩)) ((st3 w g y C c c' D d d').alloc (.cells (rx x A a a' B b b') 184)):=by
 have s:(st3 w g y C c c' D d d').heap.size=w.heap.size:=by simp[st3]
 have k':Bf (st3 w g y C c c' D d d') g 184 (rx y C c c' D d d'):=k.set3;have f:=Ao (aV _ (st3 w g y C c c' D d d')) (o:=.cells (rx x A a a' B b b') 184);have n:=Bf.new (st3 w g y C c c' D d d') 184 (rx x A a a' B b b');rw[s] at n;exact⟨_,_,A,a,a',B,b,b',C,c,c',D,d,d',rfl,rfl,n,k'.alloc _,(h1.farB3 k _ _ _).keep f,(h2.farB3 k _ _ _).keep f,(h3.farB3 k _ _ _).keep f,(h4.farB3 k _ _ _).keep f,hb.size,hg,Ao (Dw hb (hg:=hg))⟩
theorem Ahg(k:Bf w g 184 #[.bool p,.slice A0 a0 a1,.slice B0 b0 b1])(l:Bf w h 184 #[.bool q,.slice C0 c0 c1,.slice D0 d0 d1])(hg:X.heap.size<=g)(hh:X.heap.size<=h)(ne:g≠h):
 Two X x y (.pointer (some ⟨g,0,none⟩)) (.pointer (some ⟨h,0,none⟩)) (st3 (st3 w g x A a a' B b b') h y C c c' D d d'):=by
 have k':Bf (st3 w g x A a a' B b b') g 184 (rx x A a a' B b b'):=k.set3;have l':Bf (st3 w g x A a a' B b b') h 184 #[.bool q,.slice C0 c0 c1,.slice D0 d0 d1]:=l.far3 ne.symm _ _ _;exact⟨_,_,A,a,a',B,b,b',C,c,c',D,d,d',rfl,rfl,k'.far3 ne _ _ _,l'.set3,(h1.farB3 k _ _ _).farB3 l' _ _ _,(h2.farB3 k _ _ _).farB3 l' _ _ _,(h3.farB3 k _ _ _).farB3 l' _ _ _,(h4.farB3 k _ _ _).farB3 l' _ _ _,hg,hh,Dw (Dw hb (hg:=hg)) (hg:=hh)⟩
end
theorem Ams{w:World}{ba bb:Nat}{x y:Rat}{vx vy:Value}(hX:Ib w ba vx x)(hY:Ib w bb vy y)(bx:RB 600 x)(by_:RB 600 y):Calls prog 224 #[vx,vy] w (Xi w (x*y))/\Calls prog 232 #[vx,vy] w (Xi w (x+y))/\Calls prog 168 #[vx,vy] w (An9 w x y):=by
 obtain⟨p,Ax,nx,cx,Bx,ox,ex,rfl,hp,-,-⟩:=hX.op;obtain⟨q,Ay,ny,cy,By,oy,ey,rfl,hq,-,-⟩:=hY.op;obtain⟨sxn,sxd⟩:=Qe bx;obtain⟨syn,syd⟩:=Qe by_;obtain⟨s11,s22,s12,s21⟩:=Adk bx by_;have HX0:=x.den_nz;have HY0:=y.den_nz;have HP:=Ar hp;have HQ:=Ar hq;have HX:=Ar (fun (W:World) (h:Be w W)=>hX.keep h)
 have HY:=Ar (fun (W:World) (h:Be w W)=>hY.keep h)
 clear hX hY hp hq;refine⟨?_,?_,?_⟩
 all_goals
  go_in
  go_upto_region 1 with fail;refine Jy fun X hbX hP hQ hR=>?_
  try
   obtain⟨b0,b1,b2,-⟩:=hQ.triple;by_cases hy0:y.num=0
   ·have hd0:=bV hy0
    have HY1:=Ar hy0;clear hy0
    go_wp2_with (go_at_call 220;refine(Aal (HY.out _ hbX) by_).mono ?_;rintro e w1 ⟨rfl,hb1⟩;rw[hd0];obtain⟨r0,r1,r2,f0,f1,f2,lt⟩:=(hR.keep hb1).triple)
    obtain⟨s0,s1,s2,-,-,-,-⟩:=((hR.keep hb1).set3 (u':=.bool false) (v':=.slice none 0 0) (x':=.slice none 0 0)).triple;exact cB (v:=.tuple #[.agg #[.bool false,.slice none 0 0,.slice none 0 0],.bool false]) (by simp[results,results168,go_sem,s0,s1,s2]) rfl ⟨_,_,_,_,_,_,_,by rw[HY1.out];rfl,fun h=>absurd HY1.out h,Dw (An hbX hb1)⟩
   have hd0:=decide_eq_false hy0;have HY1:=Ar hy0;clear hy0
   go_upto_region 3 with (go_at_call 220;refine(Aal (HY.out _ hbX) by_).mono ?_;rintro e X ⟨rfl,hb1⟩;rw[hd0])
   replace hbX:=An hbX hb1;replace hP:=hP.keep hb1;replace hQ:=hQ.keep hb1;replace hR:=hR.keep hb1;clear b0 b1 b2 hb1 hd0
  have KF:=Ar (fun (W:World) (h:Be X W)=>Kf (hP.keep h) (hQ.keep h))
  first
   | (have:=HY1;go_cut [6,7] (fun u v W=>Two X x y u v W))
   | go_cut [5,6] (fun u v W=>Two X x y u v W)
  ·have hbD:BI X X.drew:=inferInstance
   go_region_held3 (fun w'=>Cq w' w 0 (.bool p)/\Cq w' w 1 (.slice Ax nx cx)/\Cq w' w 2 (.slice Bx ox ex)/\Cq w' (w+1) 0 (.bool q)/\Cq w' (w+1) 1 (.slice Ay ny cy)/\Cq w' (w+1) 2 (.slice By oy ey))
    (exact KF.out _ BI.h)
    ((first
      | (go_at_call 221;have hX1:=hb5;refine aF (Aam (HY.out _ (An hbX BI.h)) by_) λw6 v6 h6 hb6=>?_;obtain⟨_,A6,n6,c6,B6,o6,e6,rfl,rfl,hm6,hd6⟩:=h6.op;have hbD:BI X w6:=BI.go hb6;have hs6:=hbD.h.size;(try (have lA:=Bf.keep (Bf.alloc (Bf.new w5 _ _) _) hb6;obtain⟨x0,x1,x2,x3,x4,x5,x6⟩:=lA.triple));(try (have lB:=Bf.keep (Bf.new2 w5 _ _ _) hb6;obtain⟨x0,x1,x2,x3,x4,x5,x6⟩:=lB.triple));(try (have lA:=Bf.keep (Bf.new w5 _ _) hb6;obtain⟨x0,x1,x2,x3,x4,x5,x6⟩:=lA.triple));(try (have mA:=Bf.keep kA hb6;obtain⟨x0,x1,x2,x3,x4,x5,x6⟩:=mA.triple));(try (have mA:=Bf.keep (Bf.alloc kA _) hb6;obtain⟨x0,x1,x2,x3,x4,x5,x6⟩:=mA.triple));(try (have mB:=Bf.keep kB hb6;obtain⟨x0,x1,x2,x3,x4,x5,x6⟩:=mB.triple)))
      | (go_at_call 221;refine aF (Aam (HX.out _ (An hbX BI.h)) bx) λw5 v5 h5 hb5=>?_;obtain⟨_,A5,n5,c5,B5,o5,e5,rfl,rfl,hm5,hd5⟩:=h5.op;have hbD:BI X w5:=BI.go hb5;have hs5:=hbD.h.size;(try (have kA:=Bf.keep (Bf.drew (Bf.alloc (Bf.new X _ _) _)) hb5;obtain⟨x0,x1,x2,x3,x4,x5,x6⟩:=kA.triple));(try (have kB:=Bf.keep (Bf.drew (Bf.new2 X _ _ _)) hb5;obtain⟨x0,x1,x2,x3,x4,x5,x6⟩:=kB.triple));(try (have kA:=Bf.keep (Bf.drew (Bf.new X _ _)) hb5;obtain⟨x0,x1,x2,x3,x4,x5,x6⟩:=kA.triple)))))
   all_goals go_wp2
   all_goals go_meet
   all_goals
    have hb7:Be w5 w6:=(BI.go hb6).h;have n1:=(hm5.keep hb7).lower aB;have n2:=(hd5.keep hb7).lower aB;have n3:=hm6.lower aB;have n4:=hd6.lower aB;replace hbD:=hbD.h
    first
     | with_reducible exact Aoe n1 n2 n3 n4 hbD
     | with_reducible exact Alv n1 n2 n3 n4 hbD
     | with_reducible exact Ank n1 n2 n3 n4 hbD lA aK
     | with_reducible exact Ank n1 n2 n3 n4 hbD mA aK
     | with_reducible exact Ah3 n1 n2 n3 n4 hbD lA aK
     | with_reducible exact Ah3 n1 n2 n3 n4 hbD mA aK
     | with_reducible exact Ahg n1 n2 n3 n4 hbD lA lB aK aK aK
     | with_reducible exact Ahg n1 n2 n3 n4 hbD lB lA aK aK aK
     | with_reducible exact Ahg n1 n2 n3 n4 hbD mA mB aK aK aK
     | with_reducible exact Ahg n1 n2 n3 n4 hbD mB mA aK aK aK
     | with_reducible exact Ahg n1 n2 n3 n4 hbD mA lA aK aK aK
     | with_reducible exact Ahg n1 n2 n3 n4 hbD lA mA aK aK aK
  obtain⟨g,h,A5,n5,c5,B5,o5,e5,A6,n6,c6,B6,o6,e6,rfl,rfl,hG,hH,m1,m2,m3,m4,hgX,hhX,hbC⟩:=hcut;rw[HP.out] at hG;rw[HQ.out] at hH;have hlR:=hR.lt;have ng:g≠w.heap.size+1+1:=aK
  have nh:h≠w.heap.size+1+1:=aK
  have hR2:=hR.keep hbC;have hbW:=An hbX hbC;have hbE:=Aw (aV wc wc);have hbF:=hbE;clear hP hQ KF HX HY hR
 ·obtain⟨P,hP1⟩:∃P,x.num.natAbs*y.num.natAbs=P:=⟨_,rfl⟩
  obtain⟨D,hD1⟩:∃P,x.den*y.den=P:=⟨_,rfl⟩
  have EQ:=Ar (show mkRat (sg (p != q) P) D=x*y by rw[<-hP1,<-hD1,<-HP.out,<-HQ.out,Adg];exact(Rat.mul_def' x y).symm)
  have HN:=Ar hP1;have HD:=Ar hD1;have hd0:D≠0:=by rw[<-hD1];exact Nat.mul_ne_zero HX0 HY0
  have sP:Sm P:=by rw[<-hP1];exact s11
  have sD:Sm D:=by rw[<-hD1];exact s22
  clear hP1 hD1;go_upto_region 2 with fail
  go_region_held3 (sB fun W h=>Kf (hG.keep h) (hH.keep h))
   (first
    | with_reducible exact Kf (hG.keep hbE) (hH.keep hbE)
    | with_reducible exact Kf ((hG.keep hbE).far3 ng _ _ _) ((hH.keep hbE).far3 nh _ _ _))
   ((first
     | (go_at_call 222;have hX2:=h8;refine aF (O9 (p != q) (h7.keep hb8) h8 sP sD hd0) λw9 v9 h9 hb9=>?_;rw[EQ.out] at h9;obtain⟨_,A9,n9,c9,B9,o9,e9,rfl,rfl,hm9,hd9⟩:=h9.op;replace hbE:=An hbE hb9;obtain⟨r0,r1,r2,f0,f1,f2,lt⟩:=(hR2.keep hbE).triple)
     | (go_at_call 223;have hX1:=h7;refine aF (Acs ((m2.keep hbF).keep hb7) ((m4.keep hbF).keep hb7) sxd syd) λw8 v8 h8 hb8=>?_;rw[HD.out] at h8;replace hbE:=An hbE hb8)
     | (go_at_call 223;refine aF (Acs (m1.keep hbF) (m3.keep hbF) sxn syn) λw7 v7 h7 hb7=>?_;rw[HN.out] at h7;replace hbE:=An hbE hb7)))
  all_goals go_wp2_with fail
  obtain⟨s0,s1,s2,HR⟩:=Dn (w:=w) (hR2.keep hbE) hm9 hd9 (aZ hR2.lt (An (An blD hb7) hb8).size) (An hbW hbE)
  exact cB (v:=.agg #[.bool (decide ((x*y).num<0)),.slice A9 n9 c9,.slice B9 o9 e9]) (by simp[results,results224,go_sem,s0,s1,s2]) rfl HR
 ·obtain⟨Z,hZ⟩:∃Z:World,Z=wc:=⟨_,rfl⟩
  rw[<-hZ] at hG hH m1 m2 m3 m4 hbC hR2 hbW ⊢;clear hZ hbE hbF;obtain⟨z,hz⟩:∃z,x.num*(y.den:Int)+y.num*(x.den:Int)=z:=⟨_,rfl⟩
  have EQ:Hid (mkRat z (x.den*y.den)=x+y):=Ar (by rw[<-hz];exact(Rat.add_def' x y).symm)
  have HZ:=Ar hz
  have ssum:Sm ((x.num*(y.den:Int)).natAbs+(y.num*(x.den:Int)).natAbs):=by
   rw[Jj,Jj];exact F7 (m:=600+600+1) (Ac7 (m:=600) (Fv (m:=600) (n:=600) bx.1 by_.2) (Fv (m:=600) (n:=600) by_.1 bx.2))
  have sz:Sm z.natAbs:=by rw[<-hz];exact ssum.le (Int.natAbs_add_le _ _)
  have s12':Sm (x.num*(y.den:Int)).natAbs:=by rw[Jj];exact s12
  have s21':Sm (y.num*(x.den:Int)).natAbs:=by rw[Jj];exact s21
  have s12n:Sm (x.num.natAbs*((y.den:Int)).natAbs):=by rw[Int.natAbs_natCast];exact s12
  have s21n:Sm (y.num.natAbs*((x.den:Int)).natAbs):=by rw[Int.natAbs_natCast];exact s21
  have sxd':Sm ((x.den:Int)).natAbs:=by rw[Int.natAbs_natCast];exact sxd
  have syd':Sm ((y.den:Int)).natAbs:=by rw[Int.natAbs_natCast];exact syd
  have HXi:=Ar (fun (W:World) (h:Be Z W)=>(show P9 W 0 (.agg #[.bool p,.slice A5 n5 c5]) x.num from ⟨_,by rw[HP.out],m1.keep h⟩))
  have HYi:=Ar (fun (W:World) (h:Be Z W)=>(show P9 W 0 (.agg #[.bool q,.slice A6 n6 c6]) y.num from ⟨_,by rw[HQ.out],m3.keep h⟩))
  have HXd:=Ar (fun (W:World) (h:Be Z W)=>Sh (m2.keep h))
  have HYd:=Ar (fun (W:World) (h:Be Z W)=>Sh (m4.keep h))
  have KS:=Ar (fun (W:World) (k:Be Z W)=>Kf (hG.keep k) (hH.keep k))
  clear hz;go_upto_region 2 with fail;go_cut [7] (fun v W=>∃(n:Nat) (A:Option Addr) (a c:Nat),v=.pointer (some ⟨n,0,none⟩)/\Ce W 0 (.slice A a c) z.natAbs/\Bf W n 182 #[.bool (decide (z<0)),.slice A a c]/\Z.heap.size<=n/\Be Z W)
  case first =>
   go_region_held3 (fun W'=>Cq W' g 0 (.bool p)/\Cq W' g 1 (.slice A5 n5 c5)/\Cq W' g 2 (.slice B5 o5 e5)/\Cq W' h 0 (.bool q)/\Cq W' h 1 (.slice A6 n6 c6)/\Cq W' h 2 (.slice B6 o6 e6))
    (exact KS.out _ BI.h)
    ((first
      | (go_at_call 299;have hX4:=h8;have hc8:BI w7 w8:=⟨hc8⟩;refine aF (Api (h7.keep BI.h) (h8.keep BI.h) s12' s21' ssum) λw9 v9 h9 hb9=>?_;rw[HZ.out] at h9;obtain⟨m9,rfl,hm9⟩:=h9;obtain⟨A9,n9,c9,rfl⟩:=hm9.sl;have hbE:BI Z w9:=BI.go hb9;have hs9:=hbE.h.size;(first|(have nA:=Bf.keep kA hb9;obtain⟨k1,k2,k3,k4,k5⟩:=Bf.pair nA)|(have nA:=Bf.keep (Bf.new w8 _ _) hb9;obtain⟨k1,k2,k3,k4,k5⟩:=Bf.pair nA)|skip))
      | (go_at_call 300;have hX2:=h7;refine aF (An2 (HYi.out _ BI.h) (HXd.out _ BI.h) syn sxd' s21n) λw8 v8 h8 hb8=>?_;have hc8:Be w7 w8:=(BI.go hb8).h;have hbE:BI Z w8:=BI.go hb8;have hs8:=hbE.h.size;(first|(replace kA:=Bf.keep kA hb8;obtain⟨k1,k2,k3,k4,k5⟩:=Bf.pair kA)|(have kA:=Bf.keep (Bf.new w7 _ _) hb8;obtain⟨k1,k2,k3,k4,k5⟩:=Bf.pair kA)|skip))
      | (go_at_call 300;refine aF (An2 (HXi.out _ BI.h) (HYd.out _ BI.h) sxn syd' s12n) λw7 v7 h7 hb7=>?_;have hbE:BI Z w7:=BI.go hb7;have hs7:=hbE.h.size;(first|(have kA:=Bf.keep (Bf.drew (Bf.new Z _ _)) hb7;obtain⟨k1,k2,k3,k4,k5⟩:=Bf.pair kA)|skip))))
   all_goals go_wp2
   all_goals go_meet
   all_goals (first
    | exact⟨w9,A9,n9,c9,rfl,(hm9.lower aB).keep blA,Bf.new _ _ _,hs9,Ao hbE.h⟩
    | exact⟨_,A9,n9,c9,rfl,(hm9.lower aB).farB nA _ _,(nA.set_ 0 _).set_ 1 _,aK,Ba (Ba hbE.h (p:=⟨_,0,none⟩) (by simp only[];omega)) (p:=⟨_,1,none⟩) (by simp only[];omega)⟩)
  case rest =>
   obtain⟨n,A7,n7,c7,rfl,hm7,hN,hnX,hbC2⟩:=hcut;replace hG:=hG.keep hbC2;replace hH:=hH.keep hbC2;replace hR2:=hR2.keep hbC2;replace m2:=m2.keep hbC2;replace m4:=m4.keep hbC2;replace hbW:=An hbW hbC2;have hXZ:=hbC.size;have nn:n≠w.heap.size+1+1:=aK
   have hd0:x.den*y.den≠0:=Nat.mul_ne_zero HX0 HY0;obtain⟨D,hD1⟩:∃P,x.den*y.den=P:=⟨_,rfl⟩
   have HD:=Ar hD1;have E2:=EQ.out;rw[hD1] at E2 hd0;have EQ2:=Ar E2;have sD:Sm D:=by rw[<-hD1];exact s22
   obtain⟨b,hbz⟩:∃b,decide (z<0)=b:=⟨_,rfl⟩
   have HSZ:=Ar (show sg b z.natAbs=z by rw[<-hbz];exact I7 z)
   rw[hbz] at hN;obtain⟨P,hP1⟩:∃P,z.natAbs=P:=⟨_,rfl⟩
   rw[hP1] at hm7 sz HSZ;have E3:=EQ2.out;rw[<-HSZ.out] at E3;have EQ3:=Ar E3;obtain⟨r,hr⟩:∃r,x+y=r:=⟨_,rfl⟩
   have E4:=EQ3.out;rw[hr] at E4;have EQ4:=Ar E4;have HRR:=Ar hr;have hbE:=Aw (aV wc wc);have hbF:=hbE;clear hbz hP1 hD1 E2 E3 E4 EQ EQ2 EQ3 hr HZ HXi HYi HXd HYd KS ssum s12' s21' s12n s21n sxd' syd' hbC hbC2 m1 m3;go_upto_region 3 with fail
   go_region_held3 (sB fun W h=>ft (hN.keep h) (hG.keep h) (hH.keep h))
    (first
     | with_reducible exact ft (hN.keep hbE) (hG.keep hbE) (hH.keep hbE)
     | with_reducible exact ft ((hN.keep hbE).far3 nn _ _ _) ((hG.keep hbE).far3 ng _ _ _) ((hH.keep hbE).far3 nh _ _ _))
    ((first
      | (go_at_call 222;have hX2:=h8;refine aF (O9 b ((hm7.keep hbF).keep hb8) h8 sz sD hd0) λw9 v9 h9 hb9=>?_;rw[EQ4.out] at h9;obtain⟨_,A9,n9,c9,B9,o9,e9,rfl,rfl,hm9,hd9⟩:=h9.op;replace hbE:=An hbE hb9;obtain⟨r0,r1,r2,f0,f1,f2,lt⟩:=(hR2.keep hbE).triple)
      | (go_at_call 223;refine aF (Acs (m2.keep hbF) (m4.keep hbF) sxd syd) λw8 v8 h8 hb8=>?_;rw[HD.out] at h8;replace hbE:=An hbE hb8)))
   all_goals go_wp2_with fail
   rw[HRR.out];obtain⟨s0,s1,s2,HR⟩:=Dn (w:=w) (hR2.keep hbE) hm9 hd9 (aZ hR2.lt (An (Aw (aV wc wc)) hb8).size) (An hbW hbE)
   exact cB (v:=.agg #[.bool (decide (r.num<0)),.slice A9 n9 c9,.slice B9 o9 e9]) (by simp[results,results232,go_sem,s0,s1,s2]) rfl HR
 ·have hd0':x.den*y.num.natAbs≠0:=Nat.mul_ne_zero HX0 (by have:=HY1.out;omega)
  have EQ:=Ar (show mkRat (sg (p != q) (x.num.natAbs*y.den)) (x.den*y.num.natAbs)=x / y by
   rw[<-HP.out,<-HQ.out,Aea x y HY1.out,<-Adh y.den HY1.out];rfl)
  have s21':Sm (x.den*y.num.natAbs):=by rw[bN];exact s21
  obtain⟨z,hz⟩:∃z,x / y=z:=⟨_,rfl⟩
  have HZ:=Ar hz;rw[hz] at EQ;clear hz;go_upto_region 4 with fail
  go_region_held3 (sB fun W h=>Kf (hG.keep h) (hH.keep h))
   (first
    | with_reducible exact Kf (hG.keep hbE) (hH.keep hbE)
    | with_reducible exact Kf ((hG.keep hbE).far3 ng _ _ _) ((hH.keep hbE).far3 nh _ _ _))
   ((first
     | (go_at_call 222;have hX2:=h8;refine aF (O9 (p != q) (h7.keep hb8) h8 s12 s21' hd0') λw9 v9 h9 hb9=>?_;rw[EQ.out] at h9;obtain⟨_,A9,n9,c9,B9,o9,e9,rfl,rfl,hm9,hd9⟩:=h9.op;replace hbE:=An hbE hb9;obtain⟨r0,r1,r2,f0,f1,f2,lt⟩:=(hR2.keep hbE).triple)
     | (go_at_call 223;have hX1:=h7;refine aF (Acs ((m2.keep hbF).keep hb7) ((m3.keep hbF).keep hb7) sxd syn) λw8 v8 h8 hb8=>?_;replace hbE:=An hbE hb8)
     | (go_at_call 223;refine aF (Acs (m1.keep hbF) (m4.keep hbF) sxn syd) λw7 v7 h7 hb7=>?_;replace hbE:=An hbE hb7)))
  all_goals go_wp2_with fail
  obtain⟨s0,s1,s2,v10,hv10,HR,HB⟩:=Dn (w:=w) (hR2.keep hbE) hm9 hd9 (aZ hR2.lt (An (An blD hb7) hb8).size) (An hbW hbE)
  injection hv10 with hv10
  exact cB (v:=.tuple #[.agg #[.bool (decide (z.num<0)),.slice A9 n9 c9,.slice B9 o9 e9],.bool true]) (by simp[results,results168,go_sem,s0,s1,s2]) rfl ⟨_,_,_,_,_,_,_,by rw[decide_eq_false HY1.out];rfl,fun _=>by rw[HZ.out,hv10];exact HR,HB⟩
theorem An0:RC 224 HMul.hMul:=λa b c d=>(Ams a b c d).1
theorem An1:RC 232 HAdd.hAdd:=λa b c d=>(Ams a b c d).2.1
end
end Go.Proofs.YtboghahlhmnblaaGreat
