/- Lean texts of the claim. -/
import Derived.Test.YtlogblbfbihleaaGreatZr27
import Derived.ProofKit
import Derived.OpenShut
import Derived.ShutString
import Derived.ChangeOld
import Derived.Below
import Derived.Deep.Slices
import Derived.Deep.Strs
import Derived.Lib.SmallJoins
namespace Go.Proofs.YtlogblbfbihleaaGreat
set_option linter.all false
set_option maxRecDepth 100000
set_option maxHeartbeats 0
open Go.RowKit
variable{a:Nat}{b:World}{e:Value}{f:Rat}{g:PieceP}{h:TypeId}{i:Addr}{j:Int}
theorem us3{w:World}   {b c:Value} (d:Bf w a h #[e,b,c]):Cq w a 0 e/\Cq w a 1 b/\Cq w a 2 c :=
 ⟨(d.cell 0).trans rfl,(d.cell 1).trans rfl,(d.cell 2).trans rfl⟩
theorem se6{w:World}   {b c d g f:Value} (H:Bf w a h #[e,b,c,d,g,f]):Cq w a 0 e/\Cq w a 1 b/\Cq w a 2 c/\Cq w a 3 d/\Cq w a 4 g/\Cq w a 5 f :=
 ⟨(H.cell 0).trans rfl,(H.cell 1).trans rfl,(H.cell 2).trans rfl,(H.cell 3).trans rfl,(H.cell 4).trans rfl,(H.cell 5).trans rfl⟩
theorem Aor(j:Array Value) (s:StyleP) (w:World) (f:SmS s) (i:StV w j s) (h:C6 s≠0):Calls Tryz.prog 15 #[.agg j] w (Bz w (C6 s)):=by
 let⟨c,d⟩:=gN (C6 s)
 rw[d]at h ⊢;have k:=Ar d;have m:(c != 0)=true:=by simpa using h
 clear d h;have g:=i;obtain⟨x,D,y,E,z,F,A,G,B,H,C,I,rfl,⟨Q,R,S⟩,⟨T,U,V⟩,⟨W,Y,Z⟩,⟨n,o,p⟩,⟨q,r,t⟩,u,v⟩:=i;go_enter Tryz.func15,Tryz.ntmps15;go_upto_region 1 with fail;refine Bq λX a l=>?_
 let⟨J,K,L,M,N,O,P⟩:=st7 l
 go_wp2_with (go_at_call 35;refine rR (Te _ s _ f (g.keep a)) λw1 b=>?_;rw[k.out])
 go_ret;exact⟨rfl,An a b⟩
theorem Aoq(vs:Array Value) (s:StyleP) (w:World) (o:SmS s) (hv:StV w vs s) (h:C6 s=0):Calls Tryz.prog 15 #[.agg vs] w (Bz w (Bv s)):=by
 have HE:=Ar (show Bv s=if Fh (Ee s.pc) s.pc.length≠0 then Fh (Ee s.pc) s.pc.length
  else if Bp (Ni s) s.us.length then 3 else Fh (Ly s) s.se.length by unfold Bv;rw[if_neg (by simpa using h)])
 have HC:=Ar h;clear h;have cg:=hv;obtain⟨A1,c1,A2,c2,A3,c3,A4,c4,A5,c5,A6,c6,rfl,⟨v1,v2,v3⟩,⟨v4,v5,v6⟩,⟨v7,v8,v9⟩,⟨gw,my,ds⟩,⟨gx,mz,dx⟩,gy,n0⟩:=hv;go_enter Tryz.func15,Tryz.ntmps15;go_upto_region 1 with fail;refine Bq λX b3 hP=>?_
 let⟨V,W,Z,p3,p4,p5,p6⟩:=st7 hP;obtain⟨z1,z2,z3,z4,z5,z6⟩:=o;have o:SmS s:=⟨z1,z2,z3,z4,z5,z6⟩;have bb:=cg.keep b3
 go_upto_region 4 with (go_at_call 35;refine rR (Te _ s _ o bb) λw1 r=>?_;rw[HC.out])
 have H:=An b3 r;have F:=hP.keep r;have ba:=bb.keep r;clear V W Z p3 p4 p5 p6 hP bb cg b3 r;have bp:=v9.keep H;have K:=ds.keep H;have M:=dx.keep H;let⟨n1,b4⟩:=gN s.sz.length
 let⟨n2,b5⟩:=gN s.mu.length
 let⟨U,T⟩:=gN s.pc.length
 let⟨n4,b6⟩:=gN s.us.length
 let⟨n5,b7⟩:=gN s.se.length
 let⟨n6,b8⟩:=gN s.no
 rw[b4,b5,T,b6,b7,b8]at F ba;have HV:=Ar ba;clear ba;rw[T]at v7 z3 HE bp;rw[b6]at gw z4 HE K;rw[b7]at gx z5 HE M;rw[b4]at v1 z1;rw[b5]at v4 z2;rw[b8]at gy z6;have ev:=Ar T;clear b4 b5 T b6 b7 b8 v3 v6 v9 ds dx;let⟨V,W,Z,p3,p4,p5,p6⟩:=st7 F;go_upto_region 5 with fail;clear V W Z p3 p4 p5 p6;go_loopw [4,5,6,19] (λ_ _ _ c wr=>∃k:Nat,k<=U/\c=.int .i64 k/\Hid (Fh (Ee s.pc) k=0)/\Be w1 wr) λ_ _ _ c _=>U-(intOf c).toNat
 case atStart=>exact⟨0,Nat.zero_le _,rfl,Ar rfl,bl0⟩
 obtain⟨k,hk,rfl,hz,l⟩:=hrel;by_cases t:k<U
 .have aw:=bp.keep l;obtain⟨b0,cw,rfl,nd,ai,hc⟩:=aw.at_ t;have bc:=ai;obtain⟨E1,d1,E2,d2,E3,d3,E4,d4,rfl,-⟩:=ai;have k0:=hc 0 _ rfl;rw[Nat.add_zero]at k0;have k1:=hc 1 _ rfl;have k2:=hc 2 _ rfl;have k3:=hc 3 _ rfl;have k4:=hc 4 _ rfl;have k5:=hc 5 _ rfl;have k6:=hc 6 _ rfl;clear hc;have P:=Ar (Adn s.pc k);have D:=Ar λ(h2:Ee s.pc k≠0)=>Mk (f:=Ee s.pc) t hz.out h2;have O:=Ar (Ga (f:=Ee s.pc) hz.out);let⟨v,cf⟩:=gN (pce s.pc k)
  rw[cf]at k0 k1 k2 k3 k4 k5 k6 bc P;clear cf;have cc:=aw.take (i:=k) (by omega);have B1:(k:Int)<(U:Int):=by omega
  let⟨q0,q1,q2,q3,q4,q5,q6⟩:=st7 (F.keep l);go_upto_region 7 with fail;refine Bq λY m N=>?_
  let⟨g0,g1,g2,g3,g4,g5,g6⟩:=st7 N;have r3:=Aq m q3;have cb:=cc.keep m;have ch:=bc.keep m;have S1:(0:Int)<=(k:Int):=by omega
  have S2:(k:Int)<=(c3:Int):=by omega
  clear k0 k1 k2 k3 k4 k5 k6 q0 q1 q2 q3 q4 q5 q6 cc bc aw;have d:=Aw (Below.refl Y.heap.size Y);let⟨pe,cd⟩:=gN (Ee s.pc k)
  rw[cd]at P D O;clear cd;by_cases h0:pe=0
  .subst h0
   go_region_held3 (λu=>Cq u w.heap.size 3 (.slice (some ⟨b0,cw,none⟩) U c3)/\Cq u wr.heap.size 0 (.string v.nm)/\Cq u wr.heap.size 1 (.slice E1 v.ed.length d1)/\Cq u wr.heap.size 2 v.gr/\Cq u wr.heap.size 3 (.slice E2 v.nt.length d2)/\Cq u wr.heap.size 4 (.slice E3 v.cr.length d3)/\Cq u wr.heap.size 5 (.slice E4 v.wd.length d4)/\Cq u wr.heap.size 6 (.bool v.mt))
    (with_reducible exact⟨Aq d r3,st7 (N.keep d)⟩)
    ((go_at_call 36;refine rR (U8 _ _ k (s.pc.take k) _ v _ (by omega) (cb.keep d) (ch.keep d)) λw2 a=>?_;rw[<-P.out];replace d:=An d a))
   have er:=Ar (O.out);go_wp2_with fail;exact⟨⟨k+1,by omega,by go_num,er,An (An l m) d⟩,by simp[intOf];omega⟩
  have mv:(pe != 0)=true:=by simpa using h0
  have p:=Ar (D.out h0)
  go_region_held3 (λu=>Cq u w.heap.size 3 (.slice (some ⟨b0,cw,none⟩) U c3)/\Cq u wr.heap.size 0 (.string v.nm)/\Cq u wr.heap.size 1 (.slice E1 v.ed.length d1)/\Cq u wr.heap.size 2 v.gr/\Cq u wr.heap.size 3 (.slice E2 v.nt.length d2)/\Cq u wr.heap.size 4 (.slice E3 v.cr.length d3)/\Cq u wr.heap.size 5 (.slice E4 v.wd.length d4)/\Cq u wr.heap.size 6 (.bool v.mt))
   (with_reducible exact⟨Aq d r3,st7 (N.keep d)⟩)
   ((go_at_call 36;refine rR (U8 _ _ k (s.pc.take k) _ v _ (by omega) (cb.keep d) (ch.keep d)) λw2 a=>?_;rw[<-P.out];replace d:=An d a))
  have fa:=Ar (show Bv s=pe by rw[HE.out,if_pos (by rw[p.out];exact h0),p.out])
  go_wp2_with fail;go_ret;exact⟨by rw[fa.out];rfl,An H (An (An l m) d)⟩
 obtain rfl:U=k:=by omega
 have bx:=Ar (show Bv s=if Bp (Ni s) n4 then 3 else Fh (Ly s) n5 by rw[HE.out,if_neg (by rw[hz.out];simp)]);have E:=An H l;have G:=F.keep l;have ar:=Ar (HV.out.keep l);have J:=K.keep l;have L:=M.keep l;let⟨V,W,Z,p3,p4,p5,p6⟩:=st7 G;let⟨wo,cj⟩:=gN (wr:World)
 rw[cj]at E G ar J L V W Z p3 p4 p5 p6 ⊢;clear cj l F HV bp K M;go_upto_region 12 with fail;clear V W Z p3 p4 p5 p6;go_loopw [8,37] (λ_ c wr=>∃k:Nat,k<=n4/\c=.int .i64 k/\Hid (Bp (Ni s) k=false)/\Be wo wr) λ_ c _=>n4-(intOf c).toNat
 case atStart=>exact⟨0,Nat.zero_le _,rfl,Ar (Bp.zero _),bl0⟩
 obtain⟨k,hk,rfl,cu,l⟩:=hrel;by_cases t:k<n4
 .obtain⟨b9,cx,rfl,e0,e1,e2⟩:=(J.keep l).at_ t;have B1:(k:Int)<(n4:Int):=by omega
  have A:=Ar (show Ni s k=(decide ((use s.us k).pc<0) || decide ((U:Int)<=(use s.us k).pc) || decide ((use s.us k).ct<1) || decide (4<(use s.us k).ct)) by unfold Ni;rw[ev.out]);let⟨x,hx⟩:=gN ((use s.us k).pc)
  let⟨y,hy⟩:=gN ((use s.us k).ct)
  let⟨z,hz⟩:=gN ((use s.us k).pr)
  rw[hx]at e0 A;rw[hy]at e1 A;rw[hz]at e2;clear hx hy hz;let⟨q0,q1,q2,q3,q4,q5,q6⟩:=st7 (G.keep l);go_upto_region 14 with fail;refine Bq λY m N=>?_
  let⟨g0,g1,g2⟩:=us3 N;have r3:=Aq m q3;have g:=An l m;clear q0 q1 q2 q3 q4 q5 q6 e0 e1 e2;have Q:=Ar (λ(h:Ni s k=true)=>show Bv s=3 by rw[bx.out,if_pos (Bp.yes (f:=Ni s) t h)]);by_cases h1:x<0
  .have p:=Ar (Q.out (by rw[A.out];simp[h1]))
   go_wp2_with fail;all_goals go_ret
   all_goals exact⟨by rw[p.out];rfl,An E g⟩
  obtain⟨j,rfl⟩:∃j:Nat,x=j:=⟨x.toNat,by omega⟩
  by_cases h2:(U:Int)<=(j:Int)
  .have p:=Ar (Q.out (by rw[A.out];simp[h2]))
   go_wp2_with fail;all_goals go_ret
   all_goals exact⟨by rw[p.out];rfl,An E g⟩
  by_cases h3:y<1
  .have p:=Ar (Q.out (by rw[A.out];simp[h3]))
   go_wp2_with fail;all_goals go_ret
   all_goals exact⟨by rw[p.out];rfl,An E g⟩
  by_cases h4:4<y
  .have p:=Ar (Q.out (by rw[A.out];simp[h4]))
   go_wp2_with fail;all_goals go_ret
   all_goals exact⟨by rw[p.out];rfl,An E g⟩
  have HP:=Bp.succ (f:=Ni s) cu.out (by rw[A.out];simp;omega)
  go_wp2_with fail;all_goals exact⟨⟨k+1,by omega,by go_num,Ar HP,g⟩,by simp[intOf];omega⟩
 obtain rfl:n4=k:=by omega
 have c7:=Ar (show Bv s=Fh (Ly s) n5 by rw[bx.out,if_neg (by rw[cu.out];simp)]);have I:=An E l;have R:=G.keep l;have c9:=Ar (ar.out.keep l);have ak:=L.keep l;let⟨V,W,Z,p3,p4,p5,p6⟩:=st7 R;let⟨wp,ck⟩:=gN (wr:World)
 rw[ck]at I R c9 ak V W Z p3 p4 p5 p6 ⊢;clear ck l G ar J L;go_upto_region 18 with fail;clear V W Z p3 p4 p5 p6;go_loopw [10,66] (λ_ c wr=>∃k:Nat,k<=n5/\c=.int .i64 k/\Hid (Fh (Ly s) k=0)/\Be wp wr) λ_ c _=>n5-(intOf c).toNat
 case atStart=>exact⟨0,Nat.zero_le _,rfl,Ar rfl,bl0⟩
 obtain⟨k,hk,rfl,bd,l⟩:=hrel;by_cases t:k<n5
 .obtain⟨b9,cx,rfl,e0,e1,e2,e3,e4,e5⟩:=(ak.keep l).at_ t;have B1:(k:Int)<(n5:Int):=by omega
  have A:=Ar (show Ly s k=if Td s.pc (sem s.se k).pa (sem s.se k).ea=false\/Td s.pc (sem s.se k).pb (sem s.se k).eb=false then 3 else if (sem s.se k).es<0 then 1 else 0 from rfl);have D:=Ar (λ(h2:Ly s k≠0)=>show Bv s=Ly s k by rw[c7.out];exact Mk (f:=Ly s) t bd.out h2);have O:=Ar (Ga (f:=Ly s) bd.out);let⟨⟨xa,xe,xb,xf,xr,xs⟩,hx⟩:∃x,sem s.se k=x:=⟨_,rfl⟩
  rw[hx]at e0 e1 e2 e3 e4 e5 A;dsimp only at e0 e1 e2 e3 e4 e5 A;clear hx;let⟨q0,q1,q2,q3,q4,q5,q6⟩:=st7 (R.keep l);go_upto_region 20 with fail;refine Bq λY m N=>?_
  let⟨g0,g1,g2,g3,g4,g5⟩:=se6 N;have g:=An l m;have S:=R.keep g;have B:=c9.out.keep g;let⟨r0,r1,r2,r3,r4,r5,r6⟩:=st7 S;clear q0 q1 q2 q3 q4 q5 q6 e0 e1 e2 e3 e4 e5;let⟨b1,r⟩:=gN (Td s.pc xa xe)
  let⟨b2,a⟩:=gN (Td s.pc xb xf)
  rw[r,a]at A;have H1:=Ar r;have H2:=Ar a;clear r a;cases b1 with
  | false =>
    have p:=Ar (show Bv s=3 by
     have e:Ly s k=3:=by rw[A.out];simp
     rw[D.out (by rw[e];decide),e])
    go_wp2_with (go_at_call 37;refine rR (Fx _ s xa xe _ o B) λw2 a=>?_;rw[H1.out])
    all_goals go_ret
    all_goals exact⟨by rw[p.out];rfl,An I (An g a)⟩
  | true =>
    cases b2 with
    | false =>
      have p:=Ar (show Bv s=3 by
       have e:Ly s k=3:=by rw[A.out];simp
       rw[D.out (by rw[e];decide),e])
      go_wp2_with (first
       | (go_at_call 37;have cv:=a;refine rR (Fx _ s xb xf _ o (B.keep a)) λw3 C=>?_;rw[H2.out])
       | (go_at_call 37;refine(Fx _ s xa xe _ o B).mono ?_;rintro e w2 ⟨rfl,a⟩;rw[H1.out];let⟨t0,t1,t2,t3,t4,t5,t6⟩:=st7 (S.keep a);let⟨y0,y1,y2,y3,y4,y5⟩:=se6 (N.keep a)))
      all_goals go_ret
      all_goals exact⟨by rw[p.out];rfl,An I (An g (An a C))⟩
    | true =>
      by_cases h0:xs<0
      .have p:=Ar (show Bv s=1 by
        have e:Ly s k=1:=by rw[A.out];simp[h0]
        rw[D.out (by rw[e];decide),e])
       go_wp2_with (first
        | (go_at_call 37;have cv:=a;refine rR (Fx _ s xb xf _ o (B.keep a)) λw3 C=>?_;rw[H2.out];have h5:=Aq C y5)
        | (go_at_call 37;refine(Fx _ s xa xe _ o B).mono ?_;rintro e w2 ⟨rfl,a⟩;rw[H1.out];let⟨t0,t1,t2,t3,t4,t5,t6⟩:=st7 (S.keep a);let⟨y0,y1,y2,y3,y4,y5⟩:=se6 (N.keep a)))
       all_goals go_ret
       all_goals exact⟨by rw[p.out];rfl,An I (An g (An a C))⟩
      have HP:=Ar (show Fh (Ly s) (k+1)=0 by rw[O.out,A.out];simp[h0])
      go_wp2_with (first
       | (go_at_call 37;have cv:=a;refine rR (Fx _ s xb xf _ o (B.keep a)) λw3 C=>?_;rw[H2.out];have h5:=Aq C y5)
       | (go_at_call 37;refine(Fx _ s xa xe _ o B).mono ?_;rintro e w2 ⟨rfl,a⟩;rw[H1.out];let⟨t0,t1,t2,t3,t4,t5,t6⟩:=st7 (S.keep a);let⟨y0,y1,y2,y3,y4,y5⟩:=se6 (N.keep a)))
      all_goals exact⟨⟨k+1,by omega,by go_num,HP,An g (An a C)⟩,by simp[intOf];omega⟩
 obtain rfl:n5=k:=by omega
 have p:=Ar (show Bv s=0 by rw[c7.out,bd.out])
 go_wp2_with fail;go_ret;exact⟨by rw[p.out];rfl,An I l⟩
theorem Fs (b:Array Value) (s:StyleP) (w:World) (a:SmS s) (c:StV w b s):Calls Tryz.prog 15 #[.agg b] w (Bz w (Bv s)):=by
 by_cases h:C6 s=0
 .exact Aoq b s w a c h
 rw[show Bv s=C6 s by unfold Bv;rw[if_pos h]];exact Aor b s w a c h
structure PlcP where
 ga:Int
 us:Int
 cp:Int
 fl:Bool
 qu:Int
 x:Int
 y:Int
structure MkP where
 len:Int
 wid:Int
 rx:Int
 ry:Int
 sz:List Int
 pl:List PlcP
def plc (l:List PlcP) (k:Nat):PlcP:=l.getD k ⟨0,0,0,false,0,0,0⟩
def Qh (i:Nat) (a:Bool) (k:Nat):PlcP:=⟨0,(i:Int),(k:Int),a&&decide (k % 2=1),0,0,0⟩
def Fi (U:List UseP):Nat->List PlcP
 | 0=>[]
 | i+1=>Fi U i++(List.range (use U i).ct.toNat).map (Qh i (use U i).pr)
def Kq (s:StyleP):List PlcP:=if Bv s≠0 then [] else Fi s.us s.us.length
def Cg (s:StyleP) (u:Int):PieceP:=pce s.pc (use s.us u.toNat).pc.toNat
def Ii (s:StyleP) (z u:Int):List EdgeP×Int :=
 if Bv s≠0 then ([],Bv s) else if z<0\/(s.sz.length:Int)<=z\/u<0\/(s.us.length:Int)<=u then ([],3)
 else Ch (Cg s u) (gi s.mu z.toNat)
def J5 (s:StyleP) (z u:Int):LP×Int:=if (Ii s z u).2≠0 then ([],(Ii s z u).2) else Ff (Ii s z u).1 (Cg s u).wd
def Rn (s:StyleP) (z u:Int):(Int×Int)×Int:=if (Ii s z u).2≠0 then ((0,0),(Ii s z u).2) else (gt (edg (Ii s z u).1 0).ln 0,0)
def Xm:Shp:=⟨[],0,false,(0,0)⟩
def Fq (s:StyleP) (z:Int) (c:PlcP):Shp×Int :=
 if (J5 s z c.us).2≠0 then (Xm,(J5 s z c.us).2) else if (Rn s z c.us).2≠0 then (Xm,(Rn s z c.us).2)
 else (⟨if c.fl then F6 true 0 (J5 s z c.us).1 else (J5 s z c.us).1,(Cg s c.us).gr,(Cg s c.us).mt,if c.fl then Cd true 0 (Rn s z c.us).1 else (Rn s z c.us).1⟩,0)
def Ts (c:PlcP) (j:Int):PlcP:=⟨j,c.us,c.cp,c.fl,c.qu,c.x,c.y⟩
def Hi (s:StyleP) (z j:Int) (C:List PlcP) (a:Int×List Shp×List PlcP):Nat->Int×List Shp×List PlcP
 | 0=>a
 | k+1=>if (Hi s z j C a k).1≠0 then Hi s z j C a k else if (Fq s z (plc C k)).2≠0 then ((Fq s z (plc C k)).2,[],[])
   else (0,(Hi s z j C a k).2.1++[(Fq s z (plc C k)).1],(Hi s z j C a k).2.2++[Ts (plc C k) j])
def Hc (s:StyleP) (Z:List Int) (C:List PlcP):Nat->Int×List Shp×List PlcP
 | 0=>(0,[],[])
 | j+1=>if (Hc s Z C j).1≠0 then Hc s Z C j else Hi s (gi Z j) j C (Hc s Z C j) C.length
def Bc (s:StyleP) (Z:List Int):Int×List Shp×List PlcP :=
 if Bv s≠0 then (Bv s,[],[]) else if Z.length<1\/6<Z.length then (3,[],[])
 else if Bp (λi=>decide (gi Z i<0) || decide ((s.sz.length:Int)<=gi Z i)) Z.length then (3,[],[])
 else if 60<(Kq s).length*Z.length then (5,[],[]) else Hc s Z (Kq s) Z.length
def Vh (l:LP):Int:=max (Qi l) (-(Qi l))
def Kk (f:Int->Int->Int) (l:List Int):Nat->List Int
 | 0=>l
 | j+1=>if f (gi l (j+1)) (gi l j)<0 then Kk f ((l.set (j+1) (gi l j)).set j (gi l (j+1))) j else l
def Jb (f:Int->Int->Int) (l:List Int):Nat->List Int
 | 0=>l
 | i+1=>Kk f (Jb f l i) i
def Ov (S:List Shp) (i k:Int):Int:=Vh (shp S k.toNat).poly-Vh (shp S i.toNat).poly
def No (S:List Shp):List Int:=Jb (Ov S) ((List.range S.length).map λi:Nat=>(i:Int)) S.length
def Alm (c:PlcP) (p:Pt5):PlcP:=⟨c.ga,c.us,c.cp,c.fl,p.qu,p.x,p.y⟩
def Hv (C:List PlcP) (P:List Pt5):Nat->List PlcP
 | 0=>C
 | k+1=>(Hv C P k).set (pt P k).sh.toNat (Alm (plc (Hv C P k) (pt P k).sh.toNat) (pt P k))
def Qa:MkP:=⟨0,0,0,0,[],[]⟩
def Hg (s:StyleP) (b:Bed4) (Z:List Int):Int×MkP :=
 if (Bc s Z).1≠0 then ((Bc s Z).1,Qa)
 else if (Jz b (Bc s Z).2.1 (No (Bc s Z).2.1)).1≠0 then ((Jz b (Bc s Z).2.1 (No (Bc s Z).2.1)).1,Qa)
 else if (Vn (Bc s Z).2.1 (Jz b (Bc s Z).2.1 (No (Bc s Z).2.1)).2).1≠0 then ((Vn (Bc s Z).2.1 (Jz b (Bc s Z).2.1 (No (Bc s Z).2.1)).2).1,Qa)
 else (0,⟨(Vn (Bc s Z).2.1 (Jz b (Bc s Z).2.1 (No (Bc s Z).2.1)).2).2,b.wid,b.rx,b.ry,Z,Hv (Bc s Z).2.2 (Jz b (Bc s Z).2.1 (No (Bc s Z).2.1)).2 (Jz b (Bc s Z).2.1 (No (Bc s Z).2.1)).2.length⟩)
def Ahm (c p:PlcP):Bool:=decide (c.ga=p.ga)&&decide (c.us=p.us)&&decide (c.cp=p.cp)
def Sf (C:List PlcP) (p:PlcP):Nat->Int
 | 0 => -1
 | k+1=>if Ahm (plc C k) p then (k:Int) else Sf C p k
def gbo (l:List Bool) (k:Nat):Bool:=l.getD k false
def Hh (C P:List PlcP):Nat->Int×List Bool×List Pt5
 | 0=>(0,List.replicate C.length false,[])
 | k+1=>if (Hh C P k).1≠0 then Hh C P k
   else if Sf C (plc P k) C.length<0 then (3,[],[])
   else if gbo (Hh C P k).2.1 (Sf C (plc P k) C.length).toNat then (7,[],[])
   else (0,(Hh C P k).2.1.set (Sf C (plc P k) C.length).toNat true,(Hh C P k).2.2++[⟨Sf C (plc P k) C.length,false,(plc P k).qu,(plc P k).x,(plc P k).y⟩])
def Zt (b:Bed4) (S:List Shp) (a:List Pt5):Int:=if 60<a.length then 5 else Fh (λi=>Ha b S (a.take i) (pt a i)) a.length
def uz (m:MkP):Bed4:=⟨m.len,m.wid,m.rx,m.ry⟩
def Akz (C:List PlcP) (S:List Shp) (m:MkP) (r:Int×List Bool×List Pt5):Int×List Shp×List Pt5 :=
 if r.1≠0 then (r.1,[],[]) else if Bp (λi=>!gbo r.2.1 i) C.length then (20,[],[])
 else if Bp (λi=>(plc m.pl i).fl != (plc C (pt r.2.2 i).sh.toNat).fl) m.pl.length then (12,[],[])
 else if Zt (uz m) S r.2.2≠0 then (Zt (uz m) S r.2.2,[],[]) else (0,S,r.2.2)
def J6 (s:StyleP) (m:MkP):Int×List Shp×List Pt5 :=
 if (Bc s m.sz).1≠0 then ((Bc s m.sz).1,[],[]) else Akz (Bc s m.sz).2.2 (Bc s m.sz).2.1 m (Hh (Bc s m.sz).2.2 m.pl m.pl.length)
def Ig (S:List Shp) (a:List Pt5):Nat->Int×List LP
 | 0=>(0,[])
 | k+1=>if (Ig S a k).1≠0 then Ig S a k else if (Br S (pt a k)).1≠0 then ((Br S (pt a k)).1,[]) else (0,(Ig S a k).2++[(Br S (pt a k)).2])
def J1 (s:StyleP) (m:MkP):Int×List LP:=if (J6 s m).1≠0 then ((J6 s m).1,[]) else Ig (J6 s m).2.1 (J6 s m).2.2 (J6 s m).2.2.length
def I4 (l:List LP):Nat->Int
 | 0=>0
 | k+1=>I4 l k+Vh (lt_ l k)
def xo (s:StyleP) (m:MkP):Int×Int:=if (J1 s m).1≠0 then (0,(J1 s m).1) else (I4 (J1 s m).2 (J1 s m).2.length,0)
def M9:Array Value:=#[.string ⟨#[]⟩,.slice none 0 0,.int .i64 0,.slice none 0 0,.slice none 0 0,.slice none 0 0,.bool false]
def zPc:PieceP:=⟨⟨#[]⟩,[],0,[],[],[],false⟩
theorem Acq(w:World):PcV w M9 zPc:=⟨none,0,none,0,none,0,none,0,rfl,⟨Nat.le_refl _,by omega,rfl,.inl rfl⟩,⟨Nat.le_refl _,by omega,rfl,.inl rfl⟩,⟨Nat.le_refl _,by omega,rfl,.inl rfl⟩,Nat.le_refl _,by omega,rfl,.inl rfl⟩
def Qj (w:World) (r:List EdgeP×Int) (p:PieceP) (e:Ending) (a:World):Prop:=∃A c d b,e=.returned (.tuple #[.slice A r.1.length c,.agg d,r.2])/\r.1.length<=c/\c<=9223372036854775807/\EdS a A r.1.length r.1/\PcV a d b/\(r.2=0->b=p)/\Be w a
theorem Qj.none_{w:World} {x:Int}  (c:x≠0) (a:Be w b):Qj w ([],x) g (.returned (.tuple #[.slice none 0 0,.agg M9,x])) b:=⟨none,0,M9,zPc,rfl,Nat.le_refl _,by omega,⟨rfl,.inl rfl⟩,Acq _,λh=>absurd h c,a⟩
theorem il{w:World} {g:Nat}  (h:Below g b w) (i:g<=a) (j l c d e f k:Value):Below g b (((((((w.setCell ⟨a,0,none⟩ j).setCell ⟨a,1,none⟩ l).setCell ⟨a,2,none⟩ c).setCell ⟨a,3,none⟩ d).setCell ⟨a,4,none⟩ e).setCell ⟨a,5,none⟩ f).setCell ⟨a,6,none⟩ k) :=
 Below.setCell (Below.setCell (Below.setCell (Below.setCell (Below.setCell (Below.setCell (Below.setCell h i _) i _) i _) i _) i _) i _) i _
theorem Dv(w:World) (g o:Nat) (u:Value)  (h:a≠g):(w.setCell ⟨g,o,none⟩ u).heap[a]? = w.heap[a]? := Below.heap_setCell w ⟨g,o,none⟩ u a h
theorem Amz(w:World) (j:Nat):w.drew.heap[j]? = w.heap[j]? := rfl
theorem Am0(w:World) (g:Nat) (i b c d e f k:Value)  (h:a≠g):(World.drew (((((((w.setCell ⟨g,0,none⟩ i).setCell ⟨g,1,none⟩ b).setCell ⟨g,2,none⟩ c).setCell ⟨g,3,none⟩ d).setCell ⟨g,4,none⟩ e).setCell ⟨g,5,none⟩ f).setCell ⟨g,6,none⟩ k)).heap[a]? = w.heap[a]? := by
 rw[Amz,Dv _ _ _ _ h,Dv _ _ _ _ h,Dv _ _ _ _ h,Dv _ _ _ _ h,Dv _ _ _ _ h,Dv _ _ _ _ h,Dv _ _ _ _ h]
theorem Rr{s:StyleP} (h:Bv s=0):s.mu.length=s.sz.length/\∀i,i<s.us.length->0<=(use s.us i).pc/\(use s.us i).pc<s.pc.length/\1<=(use s.us i).ct/\(use s.us i).ct<=4:=by
 unfold Bv at h;split at h
 .rename_i g;exact absurd h g
 rename_i b;split at h
 .rename_i g;exact absurd h g
 split at h
 .cases h
 rename_i c;constructor
 .have a:C6 s=0:=by simpa using b
  unfold C6 at a;split at a
  .cases a
  split at a
  .cases a
  split at a
  .cases a
  rename_i k;refine Classical.byContradiction λd=>k (Or.inl d)
 intro i e;cases hu:Ni s i with
 | true=>exact absurd (Bp.yes (f:=Ni s) e hu) c
 | false=>unfold Ni at hu;simp at hu;omega
def Qk (w:World) (r:List EdgeP×Int) (p:PieceP) (e:Ending) (a:World):Prop:=∃A c d b,e=.returned (.tuple #[.agg d,.slice A r.1.length c,r.2])/\r.1.length<=c/\c<=9223372036854775807/\EdS a A r.1.length r.1/\PcV a d b/\(r.2=0->b=p)/\Be w a
theorem Qk.none_{w:World} {x:Int}  (c:x≠0) (a:Be w b):Qk w ([],x) g (.returned (.tuple #[.agg M9,.slice none 0 0,x])) b:=⟨none,0,M9,zPc,rfl,Nat.le_refl _,by omega,⟨rfl,.inl rfl⟩,Acq _,λh=>absurd h c,a⟩
theorem Akd(w:World) (g:Nat) (i b c d e f k:Value)  (h:a≠g):(((((((w.setCell ⟨g,0,none⟩ i).setCell ⟨g,1,none⟩ b).setCell ⟨g,2,none⟩ c).setCell ⟨g,3,none⟩ d).setCell ⟨g,4,none⟩ e).setCell ⟨g,5,none⟩ f).setCell ⟨g,6,none⟩ k).heap[a]? = w.heap[a]? := by
 rw[Dv _ _ _ _ h,Dv _ _ _ _ h,Dv _ _ _ _ h,Dv _ _ _ _ h,Dv _ _ _ _ h,Dv _ _ _ _ h,Dv _ _ _ _ h]
theorem Aia {f:Nat} {R:World->List EdgeP×Int->PieceP->Ending->World->Prop} (C:f=64/\R=Qj\/f=47/\R=Qk) (x:Array Value) (s:StyleP) (z u:Int) (w:World) (j:SmS s) (m:StV w x s) (h:Bv s≠0):Calls Tryz.prog f #[.agg x,z,u] w (R w ([],Bv s) (Cg s u)):=by
 rcases C with⟨rfl,rfl⟩|⟨rfl,rfl⟩
 have g:=@Fs;have E:=trivial
 rotate_left 1
 have g:=@N8;have F:=trivial
 rotate_left 1
 all_goals
  let⟨c,i⟩:=gN (Bv s)
  rw[i]at h ⊢;have y:=Ar i;have l:=Ar h;have D:(c != 0)=true:=by simpa using h
  clear i h;have k:=m;obtain⟨O,V,P,W,Q,Y,S,Z,T,c5,U,c6,rfl,⟨v1,v2,v3⟩,⟨v4,v5,v6⟩,⟨v7,v8,v9⟩,⟨G,H,I⟩,⟨J,K,L⟩,M,N⟩:=m;go_in;go_upto_region 1 with fail;refine Eo λX d A B=>?_
  let⟨p0,p1,p2,p3,p4,p5,p6⟩:=st7 A
  go_wp2_with ((first|go_at_call 15|go_at_call 18);refine rR (g _ s _ j (k.keep d)) λw1 b=>?_;rw[y.out];have a:=B.keep b;have g0:=a.frozen 0;have g1:=a.frozen 1;have g2:=a.frozen 2;have g3:=a.frozen 3;have g4:=a.frozen 4;have g5:=a.frozen 5;have g6:=a.frozen 6;let⟨q0,q1,q2,q3,q4,q5,q6⟩:=st7 a)
  let⟨n,o,s2,p,q,r,t⟩:=st7 (((((((a.set_ 0 (.string ⟨#[]⟩)).set_ 1 (.slice none 0 0)).set_ 2 (.int .i64 0)).set_ 3 (.slice none 0 0)).set_ 4 (.slice none 0 0)).set_ 5 (.slice none 0 0)).set_ 6 (.bool false))
  first|(exact bR (Qj.none_ l.out (il (An d b) (by omega) _ _ _ _ _ _ _)) rfl (by simp[results,Tryz.results64,go_sem,n,o,s2,p,q,r,t,M9]))|(exact bR (Qk.none_ l.out (il (An d b) (by omega) _ _ _ _ _ _ _)) rfl (by simp[results,Tryz.results47,go_sem,n,o,s2,p,q,r,t,M9]))
def Ao2:=@Aia 64 Qj (.inl ⟨rfl,rfl⟩)
def Ao5:=@Aia 47 Qk (.inr ⟨rfl,rfl⟩)
theorem Ah9 {f:Nat} {R:World->List EdgeP×Int->PieceP->Ending->World->Prop} (hf:f=64/\R=Qj\/f=47/\R=Qk) (vs:Array Value) (s:StyleP) (z u:Int) (w:World) (t:SmS s) (hv:StV w vs s) (h:Bv s=0) (hb:z<0\/(s.sz.length:Int)<=z\/u<0\/(s.us.length:Int)<=u):Calls Tryz.prog f #[.agg vs,z,u] w (R w ([],3) (Cg s u)):=by
 rcases hf with⟨rfl,rfl⟩|⟨rfl,rfl⟩
 have i:=@Fs;have bp:=trivial
 rotate_left 1
 have i:=@N8;have bq:=trivial
 rotate_left 1
 all_goals
  have B:=Ar h;have HB:=Ar hb;clear h hb;have A:=hv;obtain⟨A1,c1,A2,c2,A3,c3,A4,c4,A5,c5,A6,c6,rfl,⟨v1,v2,v3⟩,⟨v4,v5,v6⟩,⟨v7,v8,v9⟩,⟨V,bw,W⟩,⟨bx,c7,Y⟩,c9,ca⟩:=hv;go_in;go_upto_region 1 with fail;refine Eo λX c y D=>?_
  let⟨p0,p1,p2,p3,p4,p5,p6⟩:=st7 y;have L:=t.sz;have M:=t.us;have x:=A.keep c;have r:=Ar t;let⟨n1,d⟩:=gN s.sz.length
  let⟨n4,g⟩:=gN s.us.length
  have HV:=Ar x;have hB:=HB.out;rw[d,g]at hB;have C:=Ar (show StV X #[.string s.nm,.slice A1 n1 c1,.slice A2 s.mu.length c2,.slice A3 s.pc.length c3,.slice A4 n4 c4,.slice A5 s.se.length c5,.slice A6 s.no c6] s by rw[<-d,<-g];exact x);rw[d]at p1 L v1;rw[g]at p4 M V;rw[d,g]at y;clear d g x A t v3 v6 v9 W Y;by_cases h1:z<0
  .go_wp2_with ((first|go_at_call 15|go_at_call 18);refine rR (i _ s _ r.out C.out) λZ b=>?_;rw[B.out];let⟨x0,x1,x2,x3,x4,x5,x6⟩:=st7 (y.keep b);have a:=D.keep b;have E:=a.frozen 0;have F:=a.frozen 1;have G:=a.frozen 2;have H:=a.frozen 3;have I:=a.frozen 4;have J:=a.frozen 5;have K:=a.frozen 6;let⟨N,O,P,Q,S,T,U⟩:=st7 a)
   all_goals let⟨k,l,s2,m,o,p,q⟩:=st7 (((((((a.set_ 0 (.string ⟨#[]⟩)).set_ 1 (.slice none 0 0)).set_ 2 (.int .i64 0)).set_ 3 (.slice none 0 0)).set_ 4 (.slice none 0 0)).set_ 5 (.slice none 0 0)).set_ 6 (.bool false))
   all_goals first|(exact bR (Qj.none_ (by decide) (il (An c b) (by omega) _ _ _ _ _ _ _)) rfl (by simp[results,Tryz.results64,go_sem,k,l,s2,m,o,p,q,M9]))|(exact bR (Qk.none_ (by decide) (il (An c b) (by omega) _ _ _ _ _ _ _)) rfl (by simp[results,Tryz.results47,go_sem,k,l,s2,m,o,p,q,M9]))
  obtain⟨z,rfl⟩:∃j:Nat,z=j:=⟨z.toNat,by omega⟩
  by_cases h2:(n1:Int)<=(z:Int)
  .go_wp2_with ((first|go_at_call 15|go_at_call 18);refine rR (i _ s _ r.out C.out) λZ b=>?_;rw[B.out];let⟨x0,x1,x2,x3,x4,x5,x6⟩:=st7 (y.keep b);have a:=D.keep b;have E:=a.frozen 0;have F:=a.frozen 1;have G:=a.frozen 2;have H:=a.frozen 3;have I:=a.frozen 4;have J:=a.frozen 5;have K:=a.frozen 6;let⟨N,O,P,Q,S,T,U⟩:=st7 a)
   all_goals let⟨k,l,s2,m,o,p,q⟩:=st7 (((((((a.set_ 0 (.string ⟨#[]⟩)).set_ 1 (.slice none 0 0)).set_ 2 (.int .i64 0)).set_ 3 (.slice none 0 0)).set_ 4 (.slice none 0 0)).set_ 5 (.slice none 0 0)).set_ 6 (.bool false))
   all_goals first|(exact bR (Qj.none_ (by decide) (il (An c b) (by omega) _ _ _ _ _ _ _)) rfl (by simp[results,Tryz.results64,go_sem,k,l,s2,m,o,p,q,M9]))|(exact bR (Qk.none_ (by decide) (il (An c b) (by omega) _ _ _ _ _ _ _)) rfl (by simp[results,Tryz.results47,go_sem,k,l,s2,m,o,p,q,M9]))
  by_cases h3:u<0
  .go_wp2_with ((first|go_at_call 15|go_at_call 18);refine rR (i _ s _ r.out C.out) λZ b=>?_;rw[B.out];let⟨x0,x1,x2,x3,x4,x5,x6⟩:=st7 (y.keep b);have a:=D.keep b;have E:=a.frozen 0;have F:=a.frozen 1;have G:=a.frozen 2;have H:=a.frozen 3;have I:=a.frozen 4;have J:=a.frozen 5;have K:=a.frozen 6;let⟨N,O,P,Q,S,T,U⟩:=st7 a)
   all_goals let⟨k,l,s2,m,o,p,q⟩:=st7 (((((((a.set_ 0 (.string ⟨#[]⟩)).set_ 1 (.slice none 0 0)).set_ 2 (.int .i64 0)).set_ 3 (.slice none 0 0)).set_ 4 (.slice none 0 0)).set_ 5 (.slice none 0 0)).set_ 6 (.bool false))
   all_goals first|(exact bR (Qj.none_ (by decide) (il (An c b) (by omega) _ _ _ _ _ _ _)) rfl (by simp[results,Tryz.results64,go_sem,k,l,s2,m,o,p,q,M9]))|(exact bR (Qk.none_ (by decide) (il (An c b) (by omega) _ _ _ _ _ _ _)) rfl (by simp[results,Tryz.results47,go_sem,k,l,s2,m,o,p,q,M9]))
  obtain⟨u,rfl⟩:∃j:Nat,u=j:=⟨u.toNat,by omega⟩
  have h4:(n4:Int)<=(u:Int):=by omega
  go_wp2_with ((first|go_at_call 15|go_at_call 18);refine rR (i _ s _ r.out C.out) λZ b=>?_;rw[B.out];let⟨x0,x1,x2,x3,x4,x5,x6⟩:=st7 (y.keep b);have a:=D.keep b;have E:=a.frozen 0;have F:=a.frozen 1;have G:=a.frozen 2;have H:=a.frozen 3;have I:=a.frozen 4;have J:=a.frozen 5;have K:=a.frozen 6;let⟨N,O,P,Q,S,T,U⟩:=st7 a)
  all_goals let⟨k,l,s2,m,o,p,q⟩:=st7 (((((((a.set_ 0 (.string ⟨#[]⟩)).set_ 1 (.slice none 0 0)).set_ 2 (.int .i64 0)).set_ 3 (.slice none 0 0)).set_ 4 (.slice none 0 0)).set_ 5 (.slice none 0 0)).set_ 6 (.bool false))
  all_goals first|(exact bR (Qj.none_ (by decide) (il (An c b) (by omega) _ _ _ _ _ _ _)) rfl (by simp[results,Tryz.results64,go_sem,k,l,s2,m,o,p,q,M9]))|(exact bR (Qk.none_ (by decide) (il (An c b) (by omega) _ _ _ _ _ _ _)) rfl (by simp[results,Tryz.results47,go_sem,k,l,s2,m,o,p,q,M9]))
def Ao1:=@Ah9 64 Qj (.inl ⟨rfl,rfl⟩)
def Ao4:=@Ah9 47 Qk (.inr ⟨rfl,rfl⟩)
theorem Ah8 {f:Nat} {R:World->List EdgeP×Int->PieceP->Ending->World->Prop} (hf:f=64/\R=Qj\/f=47/\R=Qk) (vs:Array Value) (s:StyleP) (z u:Nat) (w:World) (L:SmS s) (hv:StV w vs s) (h:Bv s=0) (hz:z<s.sz.length) (hu:u<s.us.length):Calls Tryz.prog f #[.agg vs,(z:Int),(u:Int)] w (R w (Ch (Cg s u) (gi s.mu z)) (Cg s u)):=by
 rcases hf with⟨rfl,rfl⟩|⟨rfl,rfl⟩
 have bw:=@Fs;have bx:=@Fz;have hn:=trivial
 rotate_left 1
 have bw:=@N8;have bx:=@Mi;have ho:=trivial
 rotate_left 1
 all_goals
  have HC:=Ar h;have cz:=Ar L;let⟨k1,k2⟩:=Rr h;have k3:=k2 u hu;have HU:=Ar k3;have HM:=Ar k1;have bq:z<s.mu.length:=by omega
  have y1:=L.sz;have y3:=L.pc;have y4:=L.us;clear h L k1 k2 k3;have bm:=hv;obtain⟨A1,c1,A2,c2,A3,c3,A4,c4,A5,c5,A6,c6,rfl,⟨v1,v2,v3⟩,⟨v4,v5,v6⟩,⟨v7,v8,v9⟩,⟨b0,im,ca⟩,⟨ix,iy,eo⟩,j7,j8⟩:=hv;go_in;go_upto_region 1 with fail;refine Eo λX N hP hR=>?_
  let⟨p0,p1,p2,p3,p4,p5,p6⟩:=st7 hP;have HX:=Ar (bm.keep N);have b1:=v6.keep N;have M:=ca.keep N;have a6:=Ar HU.out;let⟨n1,ai⟩:=gN s.sz.length
  let⟨n2,ak⟩:=gN s.mu.length
  let⟨n3,ar⟩:=gN s.pc.length
  let⟨n4,au⟩:=gN s.us.length
  rw[ai,ak,ar,au]at HX hP;rw[ai]at p1 hz y1 v1;rw[ak]at p2 bq b1 v4;rw[ar]at p3 v9 a6 v7 y3;rw[au]at p4 hu M b0 y4;clear ai ak ar au bm v3 v6 ca eo;have B1:(z:Int)<(n1:Int):=by omega
  have B2:(u:Int)<(n4:Int):=by omega
  have B3:(z:Int)<(n2:Int):=by omega
  have b9:=hP;have dx:=hR
  go_upto_region 6 with ((first|go_at_call 15|go_at_call 18);refine rR (bw _ s _ cz.out HX.out) λZ o=>?_;rw[HC.out];let⟨x0,x1,x2,x3,x4,x5,x6⟩:=st7 (b9.keep o))
  have a7:=hP.keep o;have bb:=hR.keep o;have cb:=b1.keep o;have Y:=M.keep o;have c:=An N o;clear x0 x1 x2 x3 x4 x5 x6 p0 p1 p2 p3 p4 p5 p6 hP b9 hR dx b1 M o;obtain⟨O,W,rfl,e2⟩:=cb.at_ bq;obtain⟨b4,o4,rfl,e4,-,-⟩:=Y.at_ hu;let⟨i,hi⟩:∃i:Nat,(use s.us u).pc=i:=⟨(use s.us u).pc.toNat,by have:=a6.out;omega⟩
  have e0:i<n3:=by have:=a6.out.2.1;rw[hi]at this;omega
  have a1:=Ar (show Cg s u=pce s.pc i by unfold Cg;rw[show ((u:Int)).toNat=u by omega,hi];rfl);rw[hi]at e4;obtain⟨j,l,rfl,kl,V,U⟩:=v9.at_ e0;let⟨a,bd⟩:=gN (pce s.pc i)
  rw[bd]at V a1;obtain⟨t,C,x,D,y,E,A,F,rfl,bp⟩:=V;have J:PcV w #[.string a.nm,.slice t a.ed.length C,a.gr,.slice x a.nt.length D,.slice y a.cr.length E,.slice A a.wd.length F,.bool a.mt] a:=⟨t,C,x,D,y,E,A,F,rfl,bp⟩;have bl:=J.keep c;have k0:=Aq c (U 0 _ rfl);rw[Nat.add_zero]at k0;have k1:=Aq c (U 1 _ rfl);have k2:=Aq c (U 2 _ rfl);have k3:=Aq c (U 3 _ rfl);have k4:=Aq c (U 4 _ rfl);have k5:=Aq c (U 5 _ rfl);have k6:=Aq c (U 6 _ rfl);have cy:Hid (gi s.mu z=gi s.mu z):=Ar rfl;let⟨mm,ad⟩:=gN (gi s.mu z)
  rw[ad]at e2 ⊢;have b5:=Ar ad;have B4:(i:Int)<(n3:Int):=by omega
  clear U bd hi ad bp cy cb v9 Y
  have KF:∀b,Be Z b->(Cq b w.heap.size 2 (.slice (some ⟨O,W,none⟩) n2 c2)/\Cq b w.heap.size 3 (.slice (some ⟨j,l,none⟩) n3 c3)/\Cq b w.heap.size 4 (.slice (some ⟨b4,o4,none⟩) n4 c4)/\Cq b b4 (o4+u*3) (i:Int)/\Cq b O (W+z) mm/\Cq b j (l+i*7) (.string a.nm)/\Cq b j (l+i*7+1) (.slice t a.ed.length C)/\Cq b j (l+i*7+2) a.gr/\Cq b j (l+i*7+3) (.slice x a.nt.length D)/\Cq b j (l+i*7+4) (.slice y a.cr.length E)/\Cq b j (l+i*7+5) (.slice A a.wd.length F)/\Cq b j (l+i*7+6) (.bool a.mt)):=λb r=>by
   obtain⟨-,-,j2,j3,j4,-,-⟩:=st7 (a7.keep r);exact⟨j2,j3,j4,Aq r e4,Aq r e2,Aq r k0,Aq r k1,Aq r k2,Aq r k3,Aq r k4,Aq r k5,Aq r k6⟩
  have bc:=Aw (Below.refl Z.heap.size Z);clear e2 e4 k0 k1 k2 k3 k4 k5 k6;go_cut [10] λb0 wx=>b0=.pointer (some ⟨Z.heap.size,0,none⟩)/\Be Z wx/\Bf wx Z.heap.size 48 #[.string a.nm,.slice t a.ed.length C,a.gr,.slice x a.nt.length D,.slice y a.cr.length E,.slice A a.wd.length F,.bool a.mt]
  case first =>
   go_region_held3 (λb=>Cq b w.heap.size 2 (.slice (some ⟨O,W,none⟩) n2 c2)/\Cq b w.heap.size 3 (.slice (some ⟨j,l,none⟩) n3 c3)/\Cq b w.heap.size 4 (.slice (some ⟨b4,o4,none⟩) n4 c4)/\Cq b b4 (o4+u*3) (i:Int)/\Cq b O (W+z) mm/\Cq b j (l+i*7) (.string a.nm)/\Cq b j (l+i*7+1) (.slice t a.ed.length C)/\Cq b j (l+i*7+2) a.gr/\Cq b j (l+i*7+3) (.slice x a.nt.length D)/\Cq b j (l+i*7+4) (.slice y a.cr.length E)/\Cq b j (l+i*7+5) (.slice A a.wd.length F)/\Cq b j (l+i*7+6) (.bool a.mt))
    (first
     | with_reducible exact KF _ bc
     | with_reducible exact KF _ (Aw blA))
    (fail)
   all_goals go_wp2_with fail
   all_goals go_meet
   all_goals exact⟨rfl,Aw blA,Bf.drew (Bf.new _ _ _)⟩
  obtain⟨rfl,H,hQ⟩:=hcut;have K:=bl.keep H;have ba:=a7.keep H;have a8:=bb.keep H;have Q:=a8.lt;have b7:=(KF _ H).2.2.2.2.1;have T:=An c H;have dc:w.heap.size<=Z.heap.size:=c.size;let⟨q,P⟩:=gN Z.heap.size
  rw[P]at hQ dc ⊢
  have b6:∀b,Be wc b->(Cq b q 0 (.string a.nm)/\Cq b q 1 (.slice t a.ed.length C)/\Cq b q 2 a.gr/\Cq b q 3 (.slice x a.nt.length D)/\Cq b q 4 (.slice y a.cr.length E)/\Cq b q 5 (.slice A a.wd.length F)/\Cq b q 6 (.bool a.mt)/\Cq b w.heap.size 2 (.slice (some ⟨O,W,none⟩) n2 c2)/\Cq b O (W+z) mm):=λb r=>by
   let⟨j0,j1,j2,j3,j4,j5,j6⟩:=pc7 (hQ.keep r);exact⟨j0,j1,j2,j3,j4,j5,j6,(st7 (ba.keep r)).2.2.1,Aq r b7⟩
  have g:=Aw (Below.refl wc.heap.size wc);clear bl a7 bb KF bc c H b7 P;go_upto_region 7 with fail
  go_region_held3 (λb=>Cq b q 0 (.string a.nm)/\Cq b q 1 (.slice t a.ed.length C)/\Cq b q 2 a.gr/\Cq b q 3 (.slice x a.nt.length D)/\Cq b q 4 (.slice y a.cr.length E)/\Cq b q 5 (.slice A a.wd.length F)/\Cq b q 6 (.bool a.mt)/\Cq b w.heap.size 2 (.slice (some ⟨O,W,none⟩) n2 c2)/\Cq b O (W+z) mm)
   (with_reducible exact b6 _ g)
   (((first|go_at_call 62|go_at_call 68);(with_reducible refine(bx _ a mm _ (K.keep g)).mono ?_);rintro e w5 ⟨A7,c7,rfl,⟨i1,i4⟩,i2,-,dy⟩;replace g:=An g dy))
  have dk:=hQ.keep g;have d:=a8.keep g;let⟨j0,j1,j2,j3,j4,j5,j6⟩:=pc7 dk;have g0:=d.frozen 0;have g1:=d.frozen 1;have g2:=d.frozen 2;have g3:=d.frozen 3;have g4:=d.frozen 4;have g5:=d.frozen 5;have g6:=d.frozen 6;let⟨q0,q1,q2,q3,q4,q5,q6⟩:=st7 d;have fr:=K.keep g;have S:=An T g;let⟨G,hG⟩:=gN (Ch a mm)
  have HG:=Ar hG;rw[hG]at i1 i4 ⊢;clear b6 g hQ a8 ba K T;go_wp2_with fail
  first
   | go_region
     all_goals go_wp2_with fail
     let⟨s0,s1,s2,s3,s4,s5,s6⟩:=st7 (Bf.drew (((((((d.set_ 0 (.string a.nm)).set_ 1 (.slice t a.ed.length C)).set_ 2 (.int .i64 a.gr)).set_ 3 (.slice x a.nt.length D)).set_ 4 (.slice y a.cr.length E)).set_ 5 (.slice A a.wd.length F)).set_ 6 (.bool a.mt)));have I:=Aw (il S (show w.heap.size<=w.heap.size+1 by omega) (.string a.nm) (.slice t a.ed.length C) (.int .i64 a.gr) (.slice x a.nt.length D) (.slice y a.cr.length E) (.slice A a.wd.length F) (.bool a.mt));have e1:w.heap.size+1<wc.drew.heap.size:=Q;refine bodyPost_ret (v:=.tuple #[.slice A7 G.1.length c7,.agg #[.string a.nm,.slice t a.ed.length C,a.gr,.slice x a.nt.length D,.slice y a.cr.length E,.slice A a.wd.length F,.bool a.mt],G.2]) (by simp[results,Tryz.results64,go_sem,s0,s1,s2,s3,s4,s5,s6]) rfl ?_;rw[a1.out,b5.out,HG.out];refine⟨A7,c7,_,a,rfl,i1,i2,(i4.keepAbove λk hk=>?_).edsA,J.keep I,λ_=>rfl,I⟩;have aw:k≠w.heap.size+1:=by omega
     exact Am0 w5 (w.heap.size+1) _ _ _ _ _ _ _ aw
   | let⟨s0,s1,s2,s3,s4,s5,s6⟩:=st7 ((((((((d.set_ 0 (.string a.nm)).set_ 1 (.slice t a.ed.length C)).set_ 2 (.int .i64 a.gr)).set_ 3 (.slice x a.nt.length D)).set_ 4 (.slice y a.cr.length E)).set_ 5 (.slice A a.wd.length F)).set_ 6 (.bool a.mt)))
     have I:=(il S (show w.heap.size<=w.heap.size+1 by omega) (.string a.nm) (.slice t a.ed.length C) (.int .i64 a.gr) (.slice x a.nt.length D) (.slice y a.cr.length E) (.slice A a.wd.length F) (.bool a.mt));have e1:w.heap.size+1<wc.drew.heap.size:=Q;refine bodyPost_ret (v:=.tuple #[.agg #[.string a.nm,.slice t a.ed.length C,a.gr,.slice x a.nt.length D,.slice y a.cr.length E,.slice A a.wd.length F,.bool a.mt],.slice A7 G.1.length c7,G.2]) (by simp[results,Tryz.results47,go_sem,s0,s1,s2,s3,s4,s5,s6]) rfl ?_;rw[a1.out,b5.out,HG.out];refine⟨A7,c7,_,a,rfl,i1,i2,(i4.keepAbove λk hk=>?_).edsA,J.keep I,λ_=>rfl,I⟩;have aw:k≠w.heap.size+1:=by omega
     exact Akd w5 (w.heap.size+1) _ _ _ _ _ _ _ aw
def Ao0:=@Ah8 64 Qj (.inl ⟨rfl,rfl⟩)
def Ao3:=@Ah8 47 Qk (.inr ⟨rfl,rfl⟩)
theorem jh(b:Array Value) (s:StyleP) (z u:Int) (w:World) (a:SmS s) (d:StV w b s):Calls Tryz.prog 47 #[.agg b,z,u] w (Qk w (Ii s z u) (Cg s u)):=by
 unfold Ii;by_cases h:Bv s=0
 .rw[if_neg (by rw[h];simp)];by_cases c:z<0\/(s.sz.length:Int)<=z\/u<0\/(s.us.length:Int)<=u
  .rw[if_pos c];exact Ao4 b s z u w a d h c
  rw[if_neg c];obtain⟨z,rfl⟩:∃j:Nat,z=j:=⟨z.toNat,by omega⟩
  obtain⟨u,rfl⟩:∃j:Nat,u=j:=⟨u.toNat,by omega⟩
  rw[Int.toNat_natCast];exact Ao3 b s z u w a d h (by omega) (by omega)
 rw[if_pos h];exact Ao5 b s z u w a d h
theorem Yo(b:Array Value) (s:StyleP) (z u:Int) (w:World) (a:SmS s) (d:StV w b s):Calls Tryz.prog 64 #[.agg b,z,u] w (Qj w (Ii s z u) (Cg s u)):=by
 unfold Ii;by_cases h:Bv s=0
 .rw[if_neg (by rw[h];simp)];by_cases c:z<0\/(s.sz.length:Int)<=z\/u<0\/(s.us.length:Int)<=u
  .rw[if_pos c];exact Ao1 b s z u w a d h c
  rw[if_neg c];obtain⟨z,rfl⟩:∃j:Nat,z=j:=⟨z.toNat,by omega⟩
  obtain⟨u,rfl⟩:∃j:Nat,u=j:=⟨u.toNat,by omega⟩
  rw[Int.toNat_natCast];exact Ao0 b s z u w a d h (by omega) (by omega)
 rw[if_pos h];exact Ao2 b s z u w a d h
section
open Go.RowKit Limb
theorem Apg{w:World}  {x:Rat} {vx:Value} (H:Ib w a vx x) (E:RB 600 x):Calls Tryz.prog 225 #[vx] w (Xi w (-x)):=by
 have k:=H;obtain⟨mx,dx,rfl,I,q⟩:=H;obtain⟨Ax,nx,cx,rfl⟩:=I.sl;obtain⟨Bx,ox,ex,rfl⟩:=q.sl;let⟨C,ad⟩:=Qe E;have O:=x.den_nz;let⟨p,y⟩:=gN (decide (x.num<0))
 have D:=Ar y;rw[y]at k ⊢;clear y I q;let⟨z,r⟩:=gN (-x)
 have N:=Ar (show sg (!p) x.num.natAbs=z.num by rw[<-r,<-D.out,Adf];rfl);have L:=Ar (show x.den=z.den by rw[<-r];rfl);rw[r];clear r;go_enter Tryz.func225,Tryz.ntmps225;go_upto_region 1 with fail;refine Eo λX m G j=>?_
 obtain⟨Z,p1,p2,-⟩:=G.triple;have u:=j.lt
 go_upto_region 2 with (go_at_call 213;refine(Aam (k.keep m) E).mono ?_;rintro e w1 ⟨v1,rfl,R,g⟩;obtain⟨m1,d1,rfl,f,d⟩:=R;obtain⟨A1,n1,c1,rfl⟩:=f.sl;obtain⟨K,V,Q,rfl⟩:=d.sl)
 refine Bq λY c i=>?_
 rw[D.out]at i;replace f:=f.keep c;replace d:=d.keep c;have t:=An (An m g) c;replace j:=j.keep (An g c);have A:=g.size;have B:=c.size;have S:=i.lt;have U:w1.heap.size≠w.heap.size+1:=by omega
 have b:=Aw (Below.refl Y.heap.size Y);have l:=b;clear Z p1 p2 G
 go_region_held3 (sB λW h=>Iv (i.keep h))
  (first
   | with_reducible exact Iv (i.keep b)
   | with_reducible exact Iv ((i.keep b).far3 U _ _ _))
  ((go_at_call 282;refine(Aph p (f.keep l) C).mono ?_;rintro e w2 ⟨v2,rfl,F,s⟩;rw[N.out]at F;obtain⟨m2,rfl,o⟩:=F;obtain⟨J,T,P,rfl⟩:=o.sl;replace b:=An b s;let⟨r0,r1,r2,f0,f1,f2,lt⟩:=(j.keep b).triple))
 all_goals go_wp2_with fail
 have n:=d.keep b;rw[L.out]at n;let⟨s0,s1,s2,M⟩:=Dn (w:=w) (j.keep b) (o.lower (show X.heap.size<=_ from Nat.le_trans A (Nat.le_trans B l.size))) n u (by omega) (An t b);exact bR M rfl (by simp[results,Tryz.results225,go_sem,s0,s1,s2])
theorem Amq:RC 172 HSub.hSub:=by
 intro w U V x y vx vy l m H f;let⟨z,t⟩:=gN (x-y)
 have G:=Ar (show x + -y=z by rw[<-t];exact(Rat.sub_eq_add_neg x y).symm);have g:=Ar t;clear t;obtain⟨p,Q,nx,Y,S,ox,ex,rfl,-,-,-⟩:=l.op;obtain⟨q,R,ny,Z,T,oy,ey,rfl,-,-,-⟩:=m.op;have E:=Ar λ(W:World) (h:Be w W)=>l.keep h;have F:=Ar λ(W:World) (h:Be w W)=>m.keep h;clear l m;go_in;go_upto_region 1 with fail;refine Jy λX d i j k=>?_
 have r:=k.lt;have M:w.heap.size≠w.heap.size+1+1:=by omega
 have nh:w.heap.size+1≠w.heap.size+1+1:=by omega
 have a:=Aw (Below.refl X.heap.size X);have c:=a
 go_region_held3 (sB λW h=>Kf (i.keep h) (j.keep h))
  (first
   | with_reducible exact Kf (i.keep a) (j.keep a)
   | with_reducible exact Kf ((i.keep a).far3 M _ _ _) ((j.keep a).far3 nh _ _ _))
  ((first
    | (go_at_call 224;have K:=u;refine(An1 (E.out _ (An (An d c) b)) u H f.neg).mono ?_;rintro e w9 ⟨v9,rfl,A,n⟩;rw[G.out]at A;obtain⟨_,B,L,I,C,N,J,rfl,rfl,s,o⟩:=A.op;replace a:=An a n;let⟨r0,r1,r2,f0,f1,f2,lt⟩:=(k.keep a).triple)
    | (go_at_call 225;refine(Apg (F.out _ (An d c)) f).mono ?_;rintro e w2 ⟨v2,rfl,u,b⟩;replace a:=An a b)))
 all_goals go_wp2_with fail
 let⟨O,P,s2,D⟩:=Dn (w:=w) (k.keep a) s o (Nat.lt_of_lt_of_le r (An c b).size) (by omega) (An d a);exact bR (by rw[g.out];exact D) rfl (by simp[results,Tryz.results172,go_sem,O,P,s2])
end
section
open Go.RowKit Limb
theorem kof(n:Int) (w:World) (N : -4611686018427387904<=n) (O:n<=4611686018427387904):Calls Tryz.prog 274 #[n,.int .i64 1] w λe C=>∃v,e=.returned (.tuple #[v,.bool true])/\Ib C w.heap.size v (n:Rat)/\Be w C:=by
 let⟨z,u⟩:=gN ((n:Rat):Rat)
 have x:=Ar (show mkRat (sg (decide (n<0)) n.natAbs) 1=z by rw[I7,<-u];exact Rat.mkRat_self (n:Rat));rw[u];let⟨p,t⟩:=gN (decide (n<0))
 have J:=Ar t;let⟨P,c⟩:=gN n.natAbs
 have I:=Ar c;have E:=x.out;rw[t,c]at E;have G:=Ar E;have Z:Sm P:=F7 (m:=64) (by rw[<-c,show (2:Nat) ^ 64=18446744073709551616 from by decide];omega) (by decide);clear u t c E x;go_in;go_upto_region 1 with fail;refine Bq λX s A=>?_
 have T:=A.lt
 go_upto_region 4 with (first
  | (go_at_call 226;have S:=d;refine(jof 1 _ (by omega) (by omega)).mono ?_;rintro e w5 ⟨v5,rfl,⟨m5,rfl,l⟩,f⟩;obtain⟨A5,n5,c5,rfl⟩:=l.sl)
  | (go_at_call 226;refine(jof n _ N O).mono ?_;rintro e w4 ⟨v4,rfl,⟨m4,rfl,k⟩,d⟩;obtain⟨A4,n4,c4,rfl⟩:=k.sl))
 rw[J.out];refine Eo λY a Q R=>?_
 obtain⟨g0,g1,-⟩:=Q.pair;obtain⟨k0,k1,-⟩:=R.pair;have g:=(k.keep f).keep a;have o:=l.keep a;rw[I.out]at g;have r:=An (An (An s d) f) a;have h:=A.keep (An (An d f) a);have B:=(An (An d f) a).size
 go_wp2_with (go_at_call 214;refine(O9 p g o Z (F7 (m:=1) (by decide) (by decide)) (by decide)).mono ?_;rintro e w9 ⟨v9,rfl,y,i⟩;rw[show ((1:Int)).natAbs=1 from rfl,G.out]at y;obtain⟨m9,d9,rfl,q,j⟩:=y;obtain⟨D,U,L,rfl⟩:=q.sl;obtain⟨F,V,M,rfl⟩:=j.sl;let⟨r0,r1,r2,f0,f1,f2,lt⟩:=(h.keep i).triple)
 let⟨W,B,s2,a1,b,K,H⟩:=Dn (w:=w) (h.keep i) q j h.lt (by omega) (An r i);injection b with b
 exact bodyPost_ret (v:=.tuple #[.agg #[.bool (decide (z.num<0)),.slice D U L,.slice F V M],.bool true]) (by simp[results,Tryz.results274,go_sem,W,B,s2]) rfl ⟨_,rfl,by rw[b];exact K,H⟩
end
section
open Go.RowKit Limb
theorem Ajq{w:World}  {x:Rat} {vx:Value} (S:Ib w a vx x) (k:RB 600 x):Calls Tryz.prog 171 #[vx] w (wm w (rnd x.num x.den)):=by
 have L:Sm (2*x.num.natAbs):=F7 (m:=600+1) (by rw[Nat.two_mul];exact S7 (m:=600) k.1 k.1) (by decide);have s3:Sm (2*x.den):=F7 (m:=600+1) (by rw[Nat.two_mul];exact S7 (m:=600) k.2 k.2) (by decide);have s2:Sm (2*x.num.natAbs+x.den):=F7 (m:=600+2) (by rw[Nat.two_mul];exact S6 (m:=600) k.1 k.2) (by decide);have u:=S;obtain⟨mx,dx,rfl,T,E⟩:=S;obtain⟨Ax,nx,cx,rfl⟩:=T.sl;obtain⟨Bx,ox,ex,rfl⟩:=E.sl;let⟨M,F⟩:=Qe k;have a7:=x.den_nz;let⟨p,J⟩:=gN (decide (x.num<0))
 have N:=Ar J;rw[J]at u ⊢;clear J T E;let⟨z,K⟩:=gN (rnd x.num x.den)
 have EQ:Hid (sg p ((2*x.num.natAbs+x.den) / (2*x.den))=z):=Ar (by
  rw[<-K,<-N.out];unfold rnd sg;by_cases h:x.num<0<;>simp[h])
 have sQ:Sm ((2*x.num.natAbs+x.den) / (2*x.den)):=s2.le (Nat.div_le_self _ _);have I:0<2*x.den:=by omega
 have U:Sm 2:=F7 (m:=2) (by decide) (by decide);rw[K];clear K;go_enter Tryz.func171,Tryz.ntmps171;go_upto_region 1 with fail;refine Eo λX B R t=>?_
 obtain⟨p0,p1,p2,-⟩:=R.triple;have aw:=t.lt
 go_upto_region 2 with (go_at_call 213;refine(Aam (u.keep B) k).mono ?_;rintro e w1 ⟨v1,rfl,h1,o⟩;obtain⟨m1,d1,rfl,d,c⟩:=h1;obtain⟨A1,n1,c1,rfl⟩:=d.sl;obtain⟨B1,o1,e1,rfl⟩:=c.sl)
 refine Bq λY i l=>?_
 rw[N.out]at l;replace d:=d.keep i;replace c:=c.keep i;have s:=An (An B o) i;replace t:=t.keep (An o i);have b0:=o.size;have b1:=i.size;have au:=l.lt;clear p0 p1 p2 R
 go_upto_region 3 with (go_at_call 221;refine(All 2 _ (by omega)).mono ?_;rintro e V ⟨v2,rfl,O,f⟩)
 replace l:=l.keep f;replace d:=d.keep f;replace c:=c.keep f;replace t:=t.keep f;replace s:=An s f;have b:=Aw (Below.refl V.heap.size V);have g:=b
 go_region_held3 (sB λW h=>Iv (l.keep h))
  (with_reducible exact Iv (l.keep b))
  ((first
    | (go_at_call 222;refine(Aab (P.keep A) h5 s2 s3 I).mono ?_;rintro e w6 ⟨q6,r6,rfl,D,-,H⟩;obtain⟨A6,n6,c6,rfl⟩:=D.sl;replace b:=An b H)
    | (go_at_call 215;have ar:=P;refine(Acs (((O.keep g).keep j).keep q) (((c.keep g).keep j).keep q) U F).mono ?_;rintro e w5 ⟨v5,rfl,h5,A⟩;replace b:=An b A)
    | (go_at_call 223;refine(Anj h3 ((c.keep g).keep j) L F).mono ?_;rintro e w4 ⟨v4,rfl,P,q⟩;replace b:=An b q)
    | (go_at_call 215;refine(Acs (O.keep g) (d.keep g) U M).mono ?_;rintro e w3 ⟨v3,rfl,h3,j⟩;replace b:=An b j)))
 have G:=l.keep b;have n:=t.keep b;have y:=An s b;obtain⟨g0,g1,g2,-⟩:=G.triple
 go_wp2_with (go_at_call 220;refine(Af5 p D sQ).mono ?_;rintro e w7 ⟨v7,rfl,Q,r⟩;rw[EQ.out]at Q;obtain⟨m7,rfl,C⟩:=Q;obtain⟨Z,n7,c7,rfl⟩:=C.sl;let⟨r0,r1,f0,f1,lt⟩:=(n.keep r).pair)
 let⟨s0,L,HR⟩:=Gd (w:=w) (n.keep r) C n.lt (by omega) (An y r);exact bR HR rfl (by simp[results,Tryz.results171,go_sem,s0,L])
end
section
open Go.RowKit Limb
theorem qk:PC 167 HSub.hSub:=pt2 @Amq (.inr (.inr (.inl ⟨rfl,rfl⟩)))
theorem Amr:PC 217 HAdd.hAdd:=pt2 @An1 (.inr (.inr (.inr ⟨rfl,rfl⟩)))
theorem Afz:SC 218:=Ant @An0 (.inr ⟨rfl,rfl⟩)
theorem qp:XC 166:=ptx @An0 @Amq (.inr ⟨rfl,rfl,rfl⟩)
def Ape:=@Anu 168 217 218 167 @Amr @Afz @qk (.inr ⟨rfl,rfl,rfl,rfl⟩)
end
section
open Go.ChangeShapes Go.WideShapes Go.ChangeAt Go.RowKit Go.Deep Go.Joins
theorem own:ownKnob Tryz.prog.godebug=none:=by kernel_rfl
section
variable {H : Type} {enc : TypeId × Value -> H} {w : World} {base b0 : Nat} {spare : Nat -> Bool} {held : Bool} {fuel : Nat} {cs : List Value} {x : DataW H × List MemPlace} {r : Reach} {v : Value} {d : DataW H} {p : List MemPlace}
theorem Vb:Tryz.prog.cellsOf 60=2:=by kernel_rfl
theorem Ju:Tryz.prog.cellsOf 3=1:=by kernel_rfl
theorem ur:Tryz.prog.cellsOf 46=1:=by kernel_rfl
theorem Afx {α:Type} {l:List α} (h:l.length=2):∃a b,l=[a,b]:=by
 match l,h with
 | [a,b],_=>exact⟨a,b,rfl⟩
theorem jy (h:DataW.trod enc Tryz.prog w base spare held fuel 60 cs=some x):∃a b,cs=[.int .i64 a,.int .i64 b]/\inR a/\inR b:=by
 obtain⟨y0,y1,n,-,hl,h0,h1⟩:=trod_struct2 Tryz.underlying60 h;rw[Vb] at hl;obtain⟨c0,c1,rfl⟩:=Afx hl;dsimp only at h0 h1;rw[Ju] at h0 h1;obtain⟨a,e0,-,wa⟩:=DataW.trod_int Tryz.underlying3 h0;obtain⟨b,e1,-,wb⟩:=DataW.trod_int Tryz.underlying3 h1;simp at e0 e1;subst e0 e1;exact⟨a,b,rfl,bounds_i64 wa,bounds_i64 wb⟩
theorem Ro {a:Addr} {u:Value} (h:w.cell? a=some u):a=⟨a.block,a.off,none⟩:=by
 have:=World.cell?_spot h;obtain⟨b,o,s⟩:=a;simp at this;subst this;rfl
theorem C5 {a:Addr} {n k:Nat} {cs:List Value} (h:w.cells? base a n=some cs) (hk:k<n):w.cell? (a.add k)=cs[k]? := (World.cells?_some h).2.2 k hk
theorem Em (a:Addr):a.add 0=a:=by unfold Addr.add;simp
theorem M7 (b o k:Nat):(⟨b,o,none⟩:Addr).add k=⟨b,o+k,none⟩:=by
 unfold Addr.add;by_cases h:k=0
 ·subst h;simp
 ·simp[h]
theorem Qo {A:Option Addr} {n c:Nat} (h:DataW.trod enc Tryz.prog w base spare held fuel 46 [.slice A n c]=some x):n<=c/\c<=9223372036854775807/\(A=none->c=0)/\∃l,SpS w A n l/\∀q∈l,inR q.1/\inR q.2:=by
 rcases open_slice Tryz.underlying46 h with ⟨h1,-⟩|⟨a,len,cap,m,k,D,Pl,h1,h2,h3,h4,h5,-,h6⟩
 ·simp at h1
  obtain⟨rfl,rfl,rfl⟩:=h1;exact⟨Nat.le_refl _,by omega,fun _=>rfl,[],⟨rfl,.inl rfl⟩,by simp⟩
 ·simp at h1
  obtain⟨rfl,rfl,rfl⟩:=h1;refine⟨h3,by unfold maxLen at h4;exact h4,(fun h=>by cases h),?_⟩
  have hm:n<=m:=by rw[h5];split<;>omega
  have hel:∀i,i<n->∃q:Int×Int,(w.cell? (a.add (i*2))=some (.int .i64 q.1)/\w.cell? ((a.add (i*2)).add 1)=some (.int .i64 q.2))/\inR q.1/\inR q.2:=by
   intro i hi;obtain⟨cs',g1,g2⟩:=h6 i (by omega)
   rw[Vb] at g1;obtain⟨u,v,rfl,wu,wv⟩:=jy g2;have c0:=C5 g1 (show 0<2 by omega)
   have c1:=C5 g1 (show 1<2 by omega)
   rw[Em] at c0;exact⟨(u,v),⟨c0,c1⟩,wu,wv⟩
  obtain⟨f,hf⟩:=choose_lt (α:=Int×Int) (p:=fun i q=>(w.cell? (a.add (i*2))=some (.int .i64 q.1)/\w.cell? ((a.add (i*2)).add 1)=some (.int .i64 q.2))/\inR q.1/\inR q.2) hel
  refine⟨(List.range n).map f,⟨by simp,?_⟩,fun q hq=>?_⟩
  ·rcases Nat.eq_zero_or_pos n with h0|h0
   ·exact .inl h0
   ·have c0:=(hf 0 h0).1.1
    rw[Nat.zero_mul,Em] at c0;have ea:=Ro c0;refine .inr ⟨a.block,a.off,by rw[<-ea],fun k hk=>?_⟩
    have g:=(hf k hk).1;rw[ea,M7,M7] at g;have e:gt ((List.range n).map f) k=f k:=by unfold gt;simp[List.getD,hk]
    rw[e];exact g
  ·simp at hq
   obtain⟨i,hi,rfl⟩:=hq;exact(hf i hi).2
end
section
variable {H : Type} {enc : TypeId × Value -> H} {w : World} {base b0 : Nat} {spare : Nat -> Bool} {held : Bool} {r : Reach} {v : Value} {d : DataW H} {p : List MemPlace}
end
end
section
open Go.ChangeShapes Go.WideShapes Go.ChangeAt Go.RowKit
end
section
open Go.ChangeShapes Go.WideShapes Go.ChangeAt Go.RowKit Go.Deep Go.Joins
section
variable {H : Type} {enc : TypeId × Value -> H} {w : World} {base b0 : Nat} {spare : Nat -> Bool} {held : Bool} {fuel : Nat} {cs : List Value} {x : DataW H × List MemPlace} {r : Reach} {v : Value} {d : DataW H} {p : List MemPlace}
theorem Pt:Tryz.prog.cellsOf 4=1:=by kernel_rfl
instance:Inhabited Shp:=⟨⟨[],0,false,(0,0)⟩⟩
instance:Inhabited Pt5:=⟨⟨0,false,0,0,0⟩⟩
end
section
variable {H : Type} {enc : TypeId × Value -> H} {w : World} {base b0 : Nat} {spare : Nat -> Bool} {held : Bool} {r : Reach} {v : Value} {d : DataW H} {p : List MemPlace}
end
end
section
open Go.RowKit Limb
theorem Amt{w:World} {ba:Nat} {V bx q Y Z dx dy N D:Rat} {vb vc vd:Value} (P:PtV w ba e f V) (hB:PtV w ba vb bx q) (Q:PtV w ba vc Y Z) (i:PtV w ba vd dx dy) (y:RB 22 f) (B:RB 22 V) (R:RB 22 bx) (S:RB 22 q) (o:RB 22 Y) (C:RB 22 Z) (T:RB 22 dx) (U:RB 22 dy) (hN:(Y-f)*(dy-Z)-(Z-V)*(dx-Y)=N) (hD:(bx-f)*(dy-Z)-(q-V)*(dx-Y)=D):Calls Tryz.prog 117 #[e,vb,vc,vd] w (Ak8 w f V bx q N D):=by
 obtain⟨na,dc,lf,fv,dk,lg,gf,nb,ds,lk,gg,e0,lo,gw,rfl⟩:=P.sh;obtain⟨nc,e5,lr,gx,e6,lx,gy,nd,e7,ly,h0,e8,mf,h8,rfl⟩:=hB.sh;obtain⟨nf,e9,ml,h9,ec,mo,ha,ng,ee,mr,hb,eg,mv,hc,rfl⟩:=Q.sh;obtain⟨ni,ek,mx,hf,eo,my,hg,nj,er,mz,hh,ev,n0,hj,rfl⟩:=i.sh;have tN:=hN ▸ RB.x o y U C C B T o;have tD:=hD ▸ RB.x R y U C S B T o;have HN:=Ar hN;have HD:=Ar hD;let⟨z,hz⟩:=gN (!decide (D.num=0))
 have HZ:=Ar hz;clear hN hD hz;go_in;go_upto_region 1 with fail;refine Ahw λX d I J a8 ad hR=>?_
 replace P:=P.keep d;replace hB:=hB.keep d;replace Q:=Q.keep d;replace i:=i.keep d;go_cut [10,11] λu v W=>∃g p A n c E k l,u=.pointer (some ⟨g,0,none⟩)/\v=.bool z/\(D.num≠0->Ib W 0 (.agg #[.bool p,.slice A n c,.slice E k l]) (N / D))/\Bf W g 171 #[.bool p,.slice A n c,.slice E k l]/\X.heap.size<=g/\Be X W
 case first =>
  go_region_held3 (sB λW h=>c24 (I.keep h) (J.keep h) (a8.keep h) (ad.keep h))
   (exact c24 (I.keep BI.h) (J.keep BI.h) (a8.keep BI.h) (ad.keep BI.h))
   ((first
     | (go_at_call 165;have k2:=H;refine(Ams (h4.keep BI.h) (H.keep BI.h) (tN.le (by decide)) (tD.le (by decide))).2.2.mono ?_;rintro G w8 ⟨p6,A6,n6,c6,E6,k6,l6,rfl,h6,au⟩;rw[HZ.out];have kp:=BI.go (a:=X) au;(try (have x:=KI.go (t:=171) au;let⟨j1,j2,j3,j4,j5,j6,j7⟩:=x.h.triple)))
     | (go_at_call 166;have k1:=h6;refine(qp (h5.keep BI.h) (h6.keep BI.h) (R.d y) (S.d B) (T.d o) (U.d C)).mono ?_;rintro G w7 ⟨v7,rfl,H,j⟩;rw[HD.out]at H;have kl:=BI.go (a:=X) j;have l3:=BI.go (a:=w4) j;(try have x:=KI.go (t:=171) j))
     | (go_at_call 167;have k0:=h5;refine(qk (i.keep BI.h) (Q.keep BI.h) T.w U.w o.w C.w).mono ?_;rintro G w6 ⟨v6,rfl,h6,r⟩;have kk:=BI.go (a:=X) r;have l2:=BI.go (a:=w4) r;have iy:=BI.go (a:=w5) r;(try have x:=KI.go (t:=171) r))
     | (go_at_call 167;have j9:=h4;refine(qk (hB.keep BI.h) (P.keep BI.h) R.w S.w y.w B.w).mono ?_;rintro G w5 ⟨v5,rfl,h5,M⟩;have k9:=BI.go (a:=X) M;have l1:=BI.go (a:=w4) M;(try have x:=KI.go (t:=171) M))
     | (go_at_call 166;have j8:=h3;refine(qp (h2.keep BI.h) (h3.keep BI.h) (o.d y) (C.d B) (T.d o) (U.d C)).mono ?_;rintro G w4 ⟨v4,rfl,h4,ar⟩;rw[HN.out]at h4;have k5:=BI.go (a:=X) ar;(try have x:=KI.go (t:=171) ar))
     | (go_at_call 167;have j0:=h2;refine(qk (i.keep BI.h) (Q.keep BI.h) T.w U.w o.w C.w).mono ?_;rintro G w3 ⟨v3,rfl,h3,L⟩;have k4:=BI.go (a:=X) L;have l0:=BI.go (a:=w2) L;(try have x:=KI.go (t:=171) L))
     | (go_at_call 167;refine(qk (Q.keep BI.h) (P.keep BI.h) o.w C.w y.w B.w).mono ?_;rintro G w2 ⟨v2,rfl,h2,ak⟩;have k3:=BI.go (a:=X) ak;(try have x:=KI.go (t:=171) ak))))
  all_goals go_wp2_with fail
  all_goals go_meet
  all_goals (first
   | exact⟨_,p6,A6,n6,c6,E6,k6,l6,rfl,rfl,λh=>((h6 h).lower (Nat.zero_le _)).keep blA,Bf.new _ _ _,LI.h,BI.h⟩
   | exact⟨_,p6,A6,n6,c6,E6,k6,l6,rfl,rfl,λh=>((h6 h).lower (Nat.zero_le _)).farB3 x.h _ _ _,x.h.set3,LI.h,BI.h⟩)
 obtain⟨g,p6,A6,n6,c6,E6,k6,l6,rfl,rfl,hT,hG,l4,b⟩:=hcut;have c3:=An d b;have c4:=hR.lt;have K:=hR.keep b;by_cases F:D.num=0
 .obtain⟨r0,y,B,R,S,o⟩:=cells6 K;let⟨f0,f1,f2,f3,f4,f5,bs⟩:=fq K;have H0:=Ar F;obtain rfl:z=false:=HZ.out.symm.trans (by rw[decide_eq_true F];rfl);clear F hT;go_wp2_with fail;let⟨s0,s1,s2,s3,s4,s5⟩:=cells6 (K.set6 (a':=.bool false) (b':=.slice none 0 0) (c':=.slice none 0 0) (d':=.bool false) (e':=.slice none 0 0) (f':=.slice none 0 0));exact bodyPost_ret (v:=.tuple #[.agg #[.bool false,.slice none 0 0,.slice none 0 0,.bool false,.slice none 0 0,.slice none 0 0],.int .i64 10]) (by simp[results,Tryz.results117,go_sem,s0,s1,s2,s3,s4,s5]) rfl ⟨_,_,_,_,_,_,_,_,_,_,_,_,_,_,by rw[if_pos H0.out],λh=>absurd H0.out h,Xl c3 (by omega) _ _ _ _ _ _⟩
 replace hT:=hT F;have tT:=(RB.div (m:=181) (n:=181) tN tD F).le (show _<=390 by decide);have H0:=Ar F;obtain rfl:z=true:=HZ.out.symm.trans (by rw[decide_eq_false F];rfl);clear F;let⟨a0,a1,a2,a3,a4,a5⟩:=cells6 (I.keep b);let⟨b0,b1,b2,b3,b4,b5⟩:=cells6 (J.keep b);obtain⟨g0,g1,g2,-,-,-,-⟩:=hG.triple
 go_wp2_with (go_at_call 168;refine(Ape (P.keep b) (hB.keep b) hT (y.le (by decide)) (B.le (by decide)) (R.le (by decide)) (S.le (by decide)) tT).mono ?_;rintro G w7 ⟨v7,rfl,H,j⟩;obtain⟨p7,B1,n1,e1,B2,n2,e2,p8,B3,n3,e3,B4,n4,e4,rfl⟩:=H.sh;have s:=An b j;let⟨r0,y,B,R,S,o⟩:=cells6 (hR.keep s);let⟨f0,f1,f2,f3,f4,f5,bs⟩:=fq (hR.keep s))
 let⟨hZ,v9,O,bm,bl⟩:=K8 (w:=w) (hR.keep s) H.ab.1 H.ab.2 (Nat.lt_of_lt_of_le c4 b.size) (by omega) (An d s) _ rfl;injection O with O
 let⟨s0,s1,s2,s3,s4,s5⟩:=cells6 hZ;exact bodyPost_ret (v:=.tuple #[.agg #[.bool p7,.slice B1 n1 e1,.slice B2 n2 e2,.bool p8,.slice B3 n3 e3,.slice B4 n4 e4],.int .i64 0]) (by simp[results,Tryz.results117,go_sem,s0,s1,s2,s3,s4,s5]) rfl ⟨_,_,_,_,_,_,_,_,_,_,_,_,_,_,by rw[if_neg H0.out],λ_=>by rw[O];exact bm,bl⟩
end
end Go.Proofs.YtlogblbfbihleaaGreat
