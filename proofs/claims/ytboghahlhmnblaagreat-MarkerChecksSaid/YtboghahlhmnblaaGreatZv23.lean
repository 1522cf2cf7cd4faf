/- Lean texts of the claim. -/
import Derived.Test.YtboghahlhmnblaaGreatZv19
import Derived.Test.YtboghahlhmnblaaGreatZv20
namespace Go.Proofs.YtboghahlhmnblaaGreat
set_option linter.all false
set_option maxRecDepth 100000
set_option maxHeartbeats 0
open Go.RowKit Go.Proofs.Tryz
variable{a:World}{b:Array Value}{c:Nat}{e:TypeId}{f:Value}{A:Option Addr}{w:World}
theorem Aod{b a:Value}(h:Bf w c e #[f,b,a]):Cq w c 0 f/\Cq w c 1 b/\Cq w c 2 a:=⟨(h.cell 0).trans rfl,(h.cell 1).trans rfl,(h.cell 2).trans rfl⟩
theorem Alg{b a d g h:Value}(H:Bf w c e #[f,b,a,d,g,h]):Cq w c 0 f/\Cq w c 1 b/\Cq w c 2 a/\Cq w c 3 d/\Cq w c 4 g/\Cq w c 5 h:=⟨(H.cell 0).trans rfl,(H.cell 1).trans rfl,(H.cell 2).trans rfl,(H.cell 3).trans rfl,(H.cell 4).trans rfl,(H.cell 5).trans rfl⟩
def Lf(s:StyleP):Int:=if Bp (Ni s) s.us.length then 3 else Fh (Ly s) s.se.length
theorem Aeu(s:StyleP)(g:SmS s)(hv:StV w b s):Calls prog 112 #[.agg b] w (Bz w (Lf s)):=by
 have C:=Ar (show Lf s=if Bp (Ni s) s.us.length then 3 else Fh (Ly s) s.se.length from rfl);have U:=Ar hv;have z3:=g.pc;have z4:=g.us;have z5:=g.se;have ca:=Ar λk=>show Ni s k=(decide ((use s.us k).pc<0) || decide ((s.pc.length:Int)<=(use s.us k).pc) || decide ((use s.us k).ct<1) || decide (4<(use s.us k).ct)) from rfl;obtain⟨A1,c1,A2,c2,A3,c3,A4,c4,A5,c5,A6,c6,rfl,⟨v1,v2,v3⟩,⟨v4,v5,v6⟩,⟨v7,v8,v9⟩,⟨ck,gw,aw⟩,⟨cm,gx,b0⟩,gy,h5⟩:=hv;go_enter func112,ntmps112;go_upto_region 1 with fail;refine Bq λX i hP=>?_
 let⟨p0,p1,p2,p3,p4,p5,p6⟩:=st7 hP;have A:=aw.keep i;have B:=b0.keep i;have M:=U.out.keep i;have r:=hP;clear v3 v6 v9 aw b0 hP U;let⟨n3,G⟩:=gN s.pc.length
 let⟨n4,K⟩:=gN s.us.length
 let⟨S,L⟩:=gN s.se.length
 have c0:=Ar G;rw[G,K,L]at M;have V:=Ar M;clear M;rw[G]at p3 v7 z3 r ca;rw[K]at p4 ck z4 r C A;rw[L]at p5 cm z5 r C B;clear G K L;go_upto_region 2 with fail;clear p0 p1 p2 p3 p4 p5 p6;go_loopw [3,4] (λc _ wr=>∃k:Nat,k<=n4/\c=k/\Hid (Bp (Ni s) k=false)/\Be X wr) λc _ _=>n4-(intOf c).toNat
 case atStart=>exact⟨0,aB,rfl,Ar (Bp.zero _),bl0⟩
 obtain⟨k,hk,rfl,a6,q⟩:=hrel;by_cases v:k<n4
 .obtain⟨b9,a8,rfl,O,P,Q⟩:=(A.keep q).at_ v;have B1:(k:Int)<(n4:Int):=aK
  have m:=Ar (show Ni s k=(decide ((use s.us k).pc<0) || decide ((n3:Int)<=(use s.us k).pc) || decide ((use s.us k).ct<1) || decide (4<(use s.us k).ct)) by unfold Ni;rw[c0.out]);let⟨x,hx⟩:=gN ((use s.us k).pc)
  let⟨y,hy⟩:=gN ((use s.us k).ct)
  let⟨z,hz⟩:=gN ((use s.us k).pr)
  rw[hx]at O m;rw[hy]at P m;rw[hz]at Q;clear hx hy hz;let⟨q0,q1,q2,q3,q4,q5,q6⟩:=st7 (r.keep q);go_upto_region 5 with fail;refine Bq λY F R=>?_
  let⟨g0,g1,g2⟩:=Aod R;have r3:=Aq F q3;have d:=An q F;clear q0 q1 q2 q3 q4 q5 q6 O P Q;have D:=Ar (λ(h:Ni s k=true)=>show Lf s=3 by rw[C.out,if_pos (Bp.yes (f:=Ni s) v h)]);by_cases h1:x<0
  .have l:=Ar (D.out (by rw[m.out];simp[h1]))
   go_wp2;all_goals go_ret
   all_goals exact⟨by rw[l.out];rfl,An i d⟩
  obtain⟨j,rfl⟩:∃j:Nat,x=j:=⟨x.toNat,aK⟩
  by_cases h2:(n3:Int)<=(j:Int)
  .have l:=Ar (D.out (by rw[m.out];simp[h2]))
   go_wp2;all_goals go_ret
   all_goals exact⟨by rw[l.out];rfl,An i d⟩
  by_cases h3:y<1
  .have l:=Ar (D.out (by rw[m.out];simp[h3]))
   go_wp2;all_goals go_ret
   all_goals exact⟨by rw[l.out];rfl,An i d⟩
  by_cases h4:4<y
  .have l:=Ar (D.out (by rw[m.out];simp[h4]))
   go_wp2;all_goals go_ret
   all_goals exact⟨by rw[l.out];rfl,An i d⟩
  have HP:=Bp.succ (f:=Ni s) a6.out (by rw[m.out];simp;omega)
  go_wp2_with fail;all_goals exact aE ⟨Ar HP,d⟩
 obtain rfl:n4=k:=aK
 have T:=Ar (show Lf s=Fh (Ly s) S by rw[C.out,if_neg (by rw[a6.out];simp)]);have u:=An i q;have t:=r.keep q;have W:=Ar (V.out.keep q);have H:=B.keep q;let⟨p0,p1,p2,p3,p4,p5,p6⟩:=st7 t;let⟨wp,Z⟩:=gN (wr:World)
 rw[Z]at u t W H p0 p1 p2 p3 p4 p5 p6 ⊢;clear Z q r V A B;go_upto_region 8 with fail;clear p0 p1 p2 p3 p4 p5 p6;go_loopw [5,6] (λc _ wr=>∃k:Nat,k<=S/\c=k/\Hid (Fh (Ly s) k=0)/\Be wp wr) λc _ _=>S-(intOf c).toNat
 case atStart=>exact⟨0,aB,rfl,Ar rfl,bl0⟩
 obtain⟨k,hk,rfl,N,q⟩:=hrel;by_cases v:k<S
 .obtain⟨b9,a8,rfl,O,P,Q,e3,e4,e5⟩:=(H.keep q).at_ v;have B1:(k:Int)<(S:Int):=aK
  have m:=Ar (show Ly s k=if Td s.pc (sem s.se k).pa (sem s.se k).ea=false\/Td s.pc (sem s.se k).pb (sem s.se k).eb=false then 3 else if (sem s.se k).es<0 then 1 else 0 from rfl);have I:=Ar (λ(h2:Ly s k≠0)=>show Lf s=Ly s k by rw[T.out];exact Mk (f:=Ly s) v N.out h2);have bx:=Ar (Ga (f:=Ly s) N.out);let⟨⟨xa,xe,xb,xf,xr,xs⟩,hx⟩:∃x,sem s.se k=x:=⟨_,rfl⟩
  rw[hx]at O P Q e3 e4 e5 m;dsimp only at O P Q e3 e4 e5 m;clear hx;let⟨q0,q1,q2,q3,q4,q5,q6⟩:=st7 (t.keep q);go_upto_region 11 with fail;refine Bq λY F R=>?_
  let⟨g0,g1,g2,g3,g4,g5⟩:=Alg R;have d:=An q F;have E:=t.keep d;have o:=W.out.keep d;let⟨r0,r1,r2,r3,r4,r5,r6⟩:=st7 E;clear q0 q1 q2 q3 q4 q5 q6 O P Q e3 e4 e5;let⟨b1,J⟩:=gN (Td s.pc xa xe)
  let⟨b2,a⟩:=gN (Td s.pc xb xf)
  rw[J,a]at m;have H1:=Ar J;have H2:=Ar a;clear J a;cases b1 with
  | false =>
    have l:=Ar (show Lf s=3 by
     have e:Ly s k=3:=by rw[m.out];simp
     rw[I.out (by rw[e];decide),e])
    go_wp2_with (go_at_call 162;refine rR (Kd _ s xa xe _ g o) λw2 a=>?_;rw[H1.out])
    all_goals go_ret
    all_goals exact⟨by rw[l.out];rfl,An u (An d a)⟩
  | true =>
    cases b2 with
    | false =>
      have l:=Ar (show Lf s=3 by
       have e:Ly s k=3:=by rw[m.out];simp
       rw[I.out (by rw[e];decide),e])
      go_wp2_with (first
       | (go_at_call 162;have a7:=a;refine rR (Kd _ s xb xf _ g (o.keep a)) λw3 p=>?_;rw[H2.out])
       | (go_at_call 162;refine(Kd _ s xa xe _ g o).mono ?_;rintro e w2 ⟨rfl,a⟩;rw[H1.out];let⟨t0,t1,t2,t3,t4,t5,t6⟩:=st7 (E.keep a);let⟨y0,y1,y2,y3,y4,y5⟩:=Alg (R.keep a)))
      all_goals go_ret
      all_goals exact⟨by rw[l.out];rfl,An u (An d (An a p))⟩
    | true =>
      by_cases h0:xs<0
      .have l:=Ar (show Lf s=1 by
        have e:Ly s k=1:=by rw[m.out];simp[h0]
        rw[I.out (by rw[e];decide),e])
       go_wp2_with (first
        | (go_at_call 162;have a7:=a;refine rR (Kd _ s xb xf _ g (o.keep a)) λw3 p=>?_;rw[H2.out];have cu:=Aq p y5)
        | (go_at_call 162;refine(Kd _ s xa xe _ g o).mono ?_;rintro e w2 ⟨rfl,a⟩;rw[H1.out];let⟨t0,t1,t2,t3,t4,t5,t6⟩:=st7 (E.keep a);let⟨y0,y1,y2,y3,y4,y5⟩:=Alg (R.keep a)))
       all_goals go_ret
       all_goals exact⟨by rw[l.out];rfl,An u (An d (An a p))⟩
      have HP:=Ar (show Fh (Ly s) (k+1)=0 by rw[bx.out,m.out];simp[h0])
      go_wp2_with (first
       | (go_at_call 162;have a7:=a;refine rR (Kd _ s xb xf _ g (o.keep a)) λw3 p=>?_;rw[H2.out];have cu:=Aq p y5)
       | (go_at_call 162;refine(Kd _ s xa xe _ g o).mono ?_;rintro e w2 ⟨rfl,a⟩;rw[H1.out];let⟨t0,t1,t2,t3,t4,t5,t6⟩:=st7 (E.keep a);let⟨y0,y1,y2,y3,y4,y5⟩:=Alg (R.keep a)))
      all_goals exact aE ⟨HP,An d (An a p)⟩
 obtain rfl:S=k:=aK
 have l:=Ar (show Lf s=0 by rw[T.out,N.out]);let⟨q0,q1,q2,q3,q4,q5,q6⟩:=st7 (t.keep q);go_wp2;go_ret;exact⟨by rw[l.out];rfl,An u q⟩
theorem Aii(i:Nat)(Q:List PieceP)(p:PieceP)(hi:i<=1000)(hQ:PcS w A i Q)(hv:PcV w b p):Calls prog 111 #[.slice A i c,.agg b] w (Bz w (pcE Q i p)):=by
 let⟨u,t⟩:=gN (!Cy p.nm || (decide (p.gr≠1)&&decide (p.gr≠2)&&decide (p.gr≠4)))
 have N:=Ar t
 have s:=Ar (show pcE Q i p=if u then 1 else if Bp (λj=>Gq (pce Q j).nm p.nm) i then 7
  else if (Ch p 0).2≠0 then (Ch p 0).2 else if Iy p 0≠0 then Iy p 0 else ij p by
  rw[<-t];unfold pcE ij;cases Cy p.nm with
  | false=>rfl
  | true =>
    by_cases h:p.gr≠1/\p.gr≠2/\p.gr≠4
    .rw[if_neg aL,if_pos h,if_pos (by simpa[and_assoc] using h)]
    rw[show (!true || (decide (p.gr≠1)&&decide (p.gr≠2)&&decide (p.gr≠4)))=false from Bool.eq_false_iff.2 λe=>h (by simpa[and_assoc] using e),if_neg aL,if_neg h];rfl)
 clear t;have G:=hv;obtain⟨A1,c1,A2,c2,A3,c3,A4,c4,rfl,⟨v1,v2,v3⟩,⟨v4,v5,v6⟩,⟨v7,v8,v9⟩,⟨cc,cd,W⟩⟩:=hv;let⟨y,hgr⟩:=gN p.gr
 let⟨nm,E⟩:=gN p.nm
 rw[hgr,E]at G N ⊢;have HN:=Ar E;clear hgr E v3 v6 v9 W;go_enter func111,ntmps111;go_upto_region 1 with fail;refine Bq λX C L=>?_
 let⟨p0,p1,p2,p3,p4,p5,p6⟩:=pc7 L;go_cut [28] λv wx=>v=.bool u/\X=wx
 case first =>
  cases hn:Cy nm with
  | false =>
    have m:=Ar (show u=true by rw[<-N.out,hn];rfl)
    go_wp2_with (go_at_call 158;refine(Dp nm).mono ?_;rintro e M ⟨rfl,rfl⟩;rw[hn])
    go_meet;exact⟨by rw[m.out],rfl⟩
  | true =>
    have m:=Ar (show u=(decide (y≠1)&&decide (y≠2)&&decide (y≠4)) by rw[<-N.out,hn];rfl);by_cases h1:y=1
    .subst h1
     go_wp2_with (go_at_call 158;refine(Dp nm).mono ?_;rintro e M ⟨rfl,rfl⟩;rw[hn])
     all_goals go_meet
     all_goals exact⟨by rw[m.out];simp[*],rfl⟩
    have n1:(y != 1)=true:=by simpa using h1
    by_cases h2:y=2
    .subst h2
     go_wp2_with (go_at_call 158;refine(Dp nm).mono ?_;rintro e M ⟨rfl,rfl⟩;rw[hn])
     all_goals go_meet
     all_goals exact⟨by rw[m.out];simp[*],rfl⟩
    have n2:(y != 2)=true:=by simpa using h2
    by_cases h4:y=4
    .subst h4
     go_wp2_with (go_at_call 158;refine(Dp nm).mono ?_;rintro e M ⟨rfl,rfl⟩;rw[hn])
     all_goals go_meet
     all_goals exact⟨by rw[m.out];simp[*],rfl⟩
    have n4:(y != 4)=true:=by simpa using h4
    go_wp2_with (go_at_call 158;refine(Dp nm).mono ?_;rintro e M ⟨rfl,rfl⟩;rw[hn])
    all_goals go_meet
    all_goals exact⟨by rw[m.out];simp[*],rfl⟩
 obtain⟨rfl,rfl⟩:=hcut;cases u with
 | true =>
   have x:=Ar (show pcE Q i p=1 by rw[s.out];rfl)
   go_wp2;go_ret;exact⟨by rw[x.out];rfl,C⟩
 | false =>
   replace s:=Ar (show pcE Q i p=if Bp (λj=>Gq (pce Q j).nm p.nm) i then 7
   else if (Ch p 0).2≠0 then (Ch p 0).2 else if Iy p 0≠0 then Iy p 0 else ij p by rw[s.out];rfl)
   have I:=hQ.keep C;go_upto_region 4 with fail;go_loopw [5] (λd wr=>∃k:Nat,k<=i/\d=k/\Hid (Bp (λj=>Gq (pce Q j).nm p.nm) k=false)/\Be X wr) λd _=>i-(intOf d).toNat
   case atStart=>exact⟨0,aB,rfl,Ar (Bp.zero _),bl0⟩
   clear p0 p1 p2 p3 p4 p5 p6;obtain⟨k,hk,rfl,U,D⟩:=hrel;by_cases J:k<i
   .obtain⟨b0,bs,rfl,ck,K,l⟩:=(I.keep D).at_ J;obtain⟨E1,d1,E2,d2,E3,d3,E4,d4,rfl,-⟩:=K;have k0:=l 0 _ rfl;rw[bU]at k0;clear l;let⟨pn,F⟩:=gN ((pce Q k).nm)
    have P:=Ar F;rw[F]at k0;clear F;have f0:=(pc7 (L.keep D)).1;have B1:(k:Int)<(i:Int):=aK
    let⟨u,t⟩:=gN (pn.toList == nm.toList)
    have Z:Hid (Gq (pce Q k).nm p.nm=u):=Ar (by rw[P.out,HN.out];exact t);go_upto_region 6 with fail;go_quiet (fail);cases u with
    | true =>
      have x:=Ar (show pcE Q i p=7 by rw[s.out,if_pos (Bp.yes (f:=λj=>Gq (pce Q j).nm p.nm) J Z.out)])
      go_wp2;go_ret;exact⟨by rw[x.out];rfl,An C (Bd D _)⟩
    | false =>
      have HP:=Bp.succ (f:=λj=>Gq (pce Q j).nm p.nm) U.out Z.out
      go_wp2_with fail;exact aE ⟨Ar HP,Bd D _⟩
   obtain rfl:i=k:=aK
   replace s:=Ar (show pcE Q i p=if (Ch p 0).2≠0 then (Ch p 0).2 else if Iy p 0≠0 then Iy p 0 else ij p by rw[s.out,if_neg (by rw[U.out];simp)]);have B:=An C D;have n:=L.keep D;let⟨p0,p1,p2,p3,p4,p5,p6⟩:=pc7 n;have r:=G.keep B;clear D I L hQ G U;let⟨d,l⟩:=gN ((Ch p 0).2)
   have O:=Ar l;by_cases z:d=0
   .subst z;have S:p.ed.length<=1000000:=by have:=(D5 (Sk l).2.1).2.1;omega
    replace s:=Ar (show pcE Q i p=if Iy p 0≠0 then Iy p 0 else ij p by rw[s.out,if_neg (by rw[l];simp)]);clear l;let⟨d,l⟩:=gN (Iy p 0)
    have H:=Ar l;by_cases z:d=0
    .subst z;have x:=Ar (show pcE Q i p=ij p by rw[s.out,if_neg (by rw[l];simp)]);clear l
     go_wp2_with (first
      | (go_at_call 161;refine rR (Aer p (r.keep (An a o)) S) λw5 R=>?_;rw[<-x.out])
      | (go_at_call 160;have V:=a;refine(rh p 0 (r.keep a)).mono ?_;rintro e w4 ⟨pz,rfl,o⟩;rw[H.out];let⟨s0,s1,s2,s3,s4,s5,s6⟩:=pc7 (n.keep (An a o)))
      | (go_at_call 65;refine(Mi _ p 0 _ r).mono ?_;rintro e w3 ⟨Y,c5,rfl,-,-,-,a⟩;rw[O.out];let⟨r0,r1,r2,r3,r4,r5,r6⟩:=pc7 (n.keep a)))
     go_ret;exact⟨rfl,An B (An (An a o) R)⟩
    have T:(d != 0)=true:=by simpa using z
    have x:=Ar (show pcE Q i p=d by rw[s.out,l,if_pos z]);clear l z
    go_wp2_with (first
     | (go_at_call 160;have V:=a;refine(rh p 0 (r.keep a)).mono ?_;rintro e w4 ⟨pz,rfl,o⟩;rw[H.out];let⟨s0,s1,s2,s3,s4,s5,s6⟩:=pc7 (n.keep (An a o)))
     | (go_at_call 65;refine(Mi _ p 0 _ r).mono ?_;rintro e w3 ⟨Y,c5,rfl,-,-,-,a⟩;rw[O.out];let⟨r0,r1,r2,r3,r4,r5,r6⟩:=pc7 (n.keep a)))
    go_ret;exact⟨by rw[x.out];rfl,An B (An a o)⟩
   have T:(d != 0)=true:=by simpa using z
   have x:=Ar (show pcE Q i p=d by rw[s.out,l,if_pos z]);clear l z
   go_wp2_with (go_at_call 65;refine(Mi _ p 0 _ r).mono ?_;rintro e w3 ⟨Y,c5,rfl,-,-,-,a⟩;rw[O.out];let⟨r0,r1,r2,r3,r4,r5,r6⟩:=pc7 (n.keep a))
   go_ret;exact⟨by rw[x.out];rfl,An B a⟩
def muB(s:StyleP)(i:Nat):Bool:=decide (gi s.mu i < -100) || decide (100<gi s.mu i)
theorem ya(s:StyleP)(h:SmS s):Bv s=if ik s=false then 1 else if Bp (twB s.sz) s.sz.length then 7 else if Bp (muB s) s.mu.length then 3
 else if Fh (Ee s.pc) s.pc.length≠0 then Fh (Ee s.pc) s.pc.length else Lf s:=by
 obtain⟨f,g,j,k,l,m⟩:=h
 have e:C6 s=if ik s=false then 1 else if Bp (twB s.sz) s.sz.length then 7 else if Bp (muB s) s.mu.length then 3 else 0:=by
  unfold C6 ik;cases Cy s.nm with
  | false=>simp
  | true =>
    by_cases a:s.sz.length=0
    .simp[a]
    cases Bp (λi=>!szB (gb s.sz i)) s.sz.length with
    | true=>simp[a]
    | false =>
      by_cases b:s.mu.length=s.sz.length
      .cases Bp (λi=>(0:Int) == gi s.mu i) s.mu.length with
       | false=>simp[a]
       | true =>
         rw[if_neg (by simp[a]),if_neg (by simp),if_neg (by simp[b]),show (true&&!decide (s.sz.length=0)&&!false&&(true&&decide (s.mu.length=s.sz.length)))=true by simp[a,b]];by_cases d:Bp (twB s.sz) s.sz.length=true
         .exact(if_pos d).trans (if_pos d).symm
         refine(if_neg d).trans (Eq.trans ?_ (if_neg d).symm);rw[if_neg (show ¬(12<s.sz.length\/12<s.pc.length\/12<s.us.length) by omega),if_neg (show ¬(24<s.se.length\/16<s.no) by omega)];rfl
      simp[a,b]
 unfold Bv Lf;rw[e];by_cases a:ik s=false
 .rw[if_pos a,if_pos a];rfl
 rw[if_neg a,if_neg a];by_cases b:Bp (twB s.sz) s.sz.length=true
 .rw[if_pos b,if_pos b];rfl
 rw[if_neg b,if_neg b];by_cases c:Bp (muB s) s.mu.length=true
 .rw[if_pos c,if_pos c];rfl
 rw[if_neg c,if_neg c];rfl
theorem N8(vs:Array Value)(s:StyleP)(w:World)(a:SmS s)(hv:StV w vs s):Calls prog 64 #[.agg vs] w (Bz w (Bv s)):=by
 have p:=Ar (ya s a);let⟨c,J⟩:=gN (Bv s)
 rw[J]at p ⊢;clear J;have ad:=Ar hv;have b9:=Ar a;clear a;obtain⟨A1,c1,A2,c2,A3,c3,A4,c4,A5,c5,A6,c6,rfl,⟨v1,v2,v3⟩,⟨v4,v5,v6⟩,⟨v7,v8,v9⟩,⟨fa,fb,c9⟩,⟨fc,fr,ca⟩,fs,fv⟩:=hv;go_enter func64,ntmps64;go_upto_region 1 with fail;refine Bq λX m y=>?_
 let⟨p0,p1,p2,p3,p4,p5,p6⟩:=st7 y;have a:=b9.out;have N:=ad.out.keep m;have B:=v3.keep m;have W:=v6.keep m;have Y:=v9.keep m;clear v3 v6 v9 c9 ca ad;let⟨n1,K⟩:=gN s.sz.length
 let⟨n2,L⟩:=gN s.mu.length
 let⟨v,M⟩:=gN s.pc.length
 rw[K,L,M]at N y p;have z1:=a.sz;have z2:=a.mu;have z3:=a.pc;rw[K]at p1 B z1;rw[L]at p2 W z2;rw[M]at p3 v7 Y z3;have Z:=Ar N;clear K L M N;let⟨b1,h1⟩:=gN (ik s)
 have H1:=Ar h1;cases b1 with
 | false =>
   have u:=Ar (show c=1 by rw[p.out,if_pos h1]);clear h1
   go_wp2_with (go_at_call 108;refine rR (jb s a Z.out) λw1 d=>?_;rw[H1.out];let⟨Q,R,S,F,T,U,V⟩:=st7 (y.keep d))
   go_ret;exact⟨by rw[u.out];rfl,An m d⟩
 | true =>
   let⟨b2,h2⟩:=gN (Bp (twB s.sz) n1)
   have H2:=Ar h2;rw[if_neg (by rw[h1];simp),h2] at p;clear h1 h2;cases b2 with
   | true =>
     have u:=Ar (show c=7 by rw[p.out];rfl)
     go_wp2_with (first
      | (go_at_call 109;refine rR (Ac0 n1 s.sz (B.keep d)) λw2 r=>?_;rw[H2.out];have g:=An d r;let⟨r0,r1,r2,r3,r4,r5,r6⟩:=st7 (y.keep g))
      | (go_at_call 108;refine rR (jb s a Z.out) λw1 d=>?_;rw[H1.out];let⟨Q,R,S,F,T,U,V⟩:=st7 (y.keep d)))
     go_ret;exact⟨by rw[u.out];rfl,An m g⟩
   | false =>
     replace p:=Ar (show c=if Bp (muB s) n2 then 3 else if Fh (Ee s.pc) v≠0 then Fh (Ee s.pc) v else Lf s by rw[p.out];rfl)
     go_upto_region 8 with (first
      | (go_at_call 110;refine rR (Alw s a (Z.out.keep g)) λw3 aw=>?_)
      | (go_at_call 109;refine rR (Ac0 n1 s.sz (B.keep d)) λw2 r=>?_;rw[H2.out];have g:=An d r;let⟨r0,r1,r2,r3,r4,r5,r6⟩:=st7 (y.keep g))
      | (go_at_call 108;refine rR (jb s a Z.out) λw1 d=>?_;rw[H1.out];let⟨Q,R,S,F,T,U,V⟩:=st7 (y.keep d)))
     have j:=An g aw;have A:=An m j;have au:=y.keep j;have cb:=W.keep j;have cc:=Y.keep j;have ba:=Ar (Z.out.keep j);clear Q R S F T U V r0 r1 r2 r3 r4 r5 r6 p0 p1 p2 p3 p4 p5 p6 Z y W Y B d r g aw j;go_loopw [3] (λi wr=>∃k:Nat,k<=n2/\i=k/\Hid (Bp (muB s) k=false)/\w3=wr) λi _=>n2-(intOf i).toNat
     case atStart=>exact⟨0,aB,rfl,Ar (Bp.zero _),rfl⟩
     obtain⟨k,hk,rfl,O,rfl⟩:=hrel;let⟨Q,R,S,F,T,U,V⟩:=st7 au;by_cases t:k<n2
     .obtain⟨b,l,rfl,J⟩:=cb.at_ t;have B1:(k:Int)<(n2:Int):=aK
      have B0:(0:Int)<=(k:Int):=aK
      let⟨z,P⟩:=gN (gi s.mu k)
      have HW:=Ar (show muB s k=(decide (z < -100) || decide (100<z)) by unfold muB;rw[P]);rw[P]at J;clear P;by_cases h0:100<z
      .have u:=Ar (show c=3 by rw[p.out,if_pos (Bp.yes (f:=muB s) t (by rw[HW.out];simp;omega))])
       go_wp2;go_ret;exact⟨by rw[u.out];rfl,A⟩
      by_cases h5:z < -100
      .have u:=Ar (show c=3 by rw[p.out,if_pos (Bp.yes (f:=muB s) t (by rw[HW.out];simp;omega))])
       go_wp2;go_ret;exact⟨by rw[u.out];rfl,A⟩
      have HS:=Bp.succ (f:=muB s) O.out (by rw[HW.out];simp;omega)
      go_wp2_with fail;exact aE ⟨Ar HS,trivial⟩
     obtain rfl:n2=k:=aK
     replace p:=Ar (show c=if Fh (Ee s.pc) v≠0 then Fh (Ee s.pc) v else Lf s by rw[p.out,if_neg (by rw[O.out];simp)]);go_upto_region 13 with fail;clear Q R S F T U V O;go_loopw [4,5] (λi _ wr=>∃k:Nat,k<=v/\i=k/\Hid (Fh (Ee s.pc) k=0)/\Be w3 wr) λi _ _=>v-(intOf i).toNat
     case atStart=>exact⟨0,aB,rfl,Ar rfl,bl0⟩
     obtain⟨k,hk,rfl,O,hb⟩:=hrel;let⟨Q,R,S,F,T,U,V⟩:=st7 (au.keep hb);by_cases t:k<v
     .have I:=cc.keep hb;obtain⟨C,l,rfl,gw,D,J⟩:=I.at_ t;have b5:=D;obtain⟨E1,d1,E2,d2,E3,d3,E4,d4,rfl,-⟩:=D;let⟨k0,k1,k2,k3,k4,k5,k6⟩:=c7 J;clear J;have H:=Ar (Adn s.pc k);have G:=Ar λ(h2:Ee s.pc k≠0)=>Mk (f:=Ee s.pc) t O.out h2;have a8:=Ar (Ga (f:=Ee s.pc) O.out);let⟨E,b4⟩:=gN (pce s.pc k)
      rw[b4]at k0 k1 k2 k3 k4 k5 k6 b5 H;have bc:=I.take (i:=k) aK;have B1:(k:Int)<(v:Int):=aK
      have S1:(0:Int)<=(k:Int):=aK
      have S2:(k:Int)<=(c3:Int):=aK
      let⟨pe,b3⟩:=gN (Ee s.pc k)
      rw[b3]at H G a8;clear b4 b3;go_upto_region 15 with fail;have o:=Aw (aV wr wr)
      have HS:=Ar (λx (h:Be wr x)=>show Cq x w 3 (.slice (some ⟨C,l,none⟩) v c3)/\Cq x C (l+k*7) (.string E.nm)/\Cq x C (l+k*7+1) (.slice E1 E.ed.length d1)/\Cq x C (l+k*7+2) E.gr/\Cq x C (l+k*7+3) (.slice E2 E.nt.length d2)/\Cq x C (l+k*7+4) (.slice E3 E.cr.length d3)/\Cq x C (l+k*7+5) (.slice E4 E.wd.length d4)/\Cq x C (l+k*7+6) (.bool E.mt) from
       ⟨Aq h F,Aq h k0,Aq h k1,Aq h k2,Aq h k3,Aq h k4,Aq h k5,Aq h k6⟩)
      clear Q R S F T U V k0 k1 k2 k3 k4 k5 k6 I
      go_region_held3 (sB HS.out)
       (with_reducible exact HS.out _ o)
       ((go_at_call 111;refine rR (Aii k (s.pc.take k) E aK (bc.keep o) (b5.keep o)) λw2 r=>?_;rw[<-H.out];replace o:=An o r))
      by_cases h0:pe=0
      .subst h0;have b8:=Ar a8.out;go_wp2_with fail;exact aE ⟨b8,An hb o⟩
      have eo:(pe != 0)=true:=by simpa using h0
      have u:=Ar (show c=pe by rw[p.out,if_pos (by rw[G.out h0];exact h0),G.out h0])
      go_wp2;go_ret;exact⟨by rw[u.out];rfl,An A (An hb o)⟩
     obtain rfl:v=k:=aK
     have u:=Ar (show Lf s=c by rw[p.out,if_neg (by rw[O.out];simp)])
     go_wp2_with (go_at_call 112;refine rR (Aeu s a (ba.out.keep hb)) λw4 bd=>?_;rw[u.out])
     go_ret;exact⟨rfl,An A (An hb bd)⟩
end Go.Proofs.YtboghahlhmnblaaGreat
