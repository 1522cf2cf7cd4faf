/- Lean texts of the claim. -/
import Derived.Test.YtpbchbcdgikonaaGreatQ46
namespace Go.Proofs.YtpbchbcdgikonaaGreat
set_option linter.unusedVariables false
set_option linter.unusedSimpArgs false
set_option maxRecDepth 100000
set_option maxHeartbeats 4000000
open Go.RowKit
theorem Acw (l:List PlcP) (k:Nat) (hk:k<=l.length):(l.reverse.take k).length=k:=by simp;omega
theorem vv {l:List PlcP} {k:Nat} (hk:k<l.length):l.reverse.take (k+1)=l.reverse.take k++[plc l (l.length-1-k)]:=by
 rw[List.take_add_one,List.getElem?_reverse hk,Xp (show l.length-1-k<l.length by omega)]
 rfl
theorem yb (aw:Aih) (vs:Array Value) (s:StyleP) (ms:Array Value) (m:MkP) (w:World) (hv:StV w vs s) (hm:MkV w ms m) (hr:∀p∈m.pl,inR p.ga/\inR p.us/\inR p.cp) :
 Calls Tryz.prog 7 #[.agg vs,.agg ms] w fun e w'=>e=.returned (.bool true)/\Below w.heap.size w w':=by
 have HA:=Lib.hid aw;obtain⟨A1,c1,A2,c2,A3,c3,A4,c4,A5,c5,A6,c6,rfl,-⟩:=id hv;obtain⟨M1,d1,M2,d2,rfl,⟨z1,z2,z3⟩,-,-,-,hpl⟩:=id hm;obtain⟨n1,hn1⟩:∃n,m.sz.length=n:=⟨_,rfl⟩
 obtain⟨n2,hn2⟩:∃n,m.pl.length=n:=⟨_,rfl⟩
 have HOR:=Lib.hid (Ve s m);have HM0:=Lib.hid (show ∀W,SmS s->n2<=8->StV W #[.string s.nm,.slice A1 s.sz.length c1,.slice A2 s.mu.length c2,.slice A3 s.pc.length c3,.slice A4 s.us.length c4,.slice A5 s.se.length c5,.slice A6 s.no c6] s->MkV W #[.int .i64 m.len,.int .i64 m.wid,.int .i64 m.rx,.int .i64 m.ry,.slice M1 n1 d1,.slice M2 n2 d2] m->Calls Tryz.prog 19 #[.agg #[.string s.nm,.slice A1 s.sz.length c1,.slice A2 s.mu.length c2,.slice A3 s.pc.length c3,.slice A4 s.us.length c4,.slice A5 s.se.length c5,.slice A6 s.no c6],.agg #[.int .i64 m.len,.int .i64 m.wid,.int .i64 m.rx,.int .i64 m.ry,.slice M1 n1 d1,.slice M2 n2 d2]] W fun e w'=>e=.returned (.int .i64 (Fs s m).1)/\Below W.heap.size W w' from fun W h1 h2 h3 h4=>Jb _ s _ m W h1 h3 h4 hr (by omega))
 have HM1:=Lib.hid (show ∀W v,SmS s->n2<=8->StV W #[.string s.nm,.slice A1 s.sz.length c1,.slice A2 s.mu.length c2,.slice A3 s.pc.length c3,.slice A4 s.us.length c4,.slice A5 s.se.length c5,.slice A6 s.no c6] s->MkV W #[.int .i64 m.len,.int .i64 m.wid,.int .i64 m.rx,.int .i64 m.ry,.slice M1 n1 d1,v] { m with pl:=m.pl.reverse }->Calls Tryz.prog 19 #[.agg #[.string s.nm,.slice A1 s.sz.length c1,.slice A2 s.mu.length c2,.slice A3 s.pc.length c3,.slice A4 s.us.length c4,.slice A5 s.se.length c5,.slice A6 s.no c6],.agg #[.int .i64 m.len,.int .i64 m.wid,.int .i64 m.rx,.int .i64 m.ry,.slice M1 n1 d1,v]] W fun e w'=>e=.returned (.int .i64 (Fs s { m with pl:=m.pl.reverse }).1)/\Below W.heap.size W w' from fun W v h1 h2 h3 h4=>Jb _ s _ { m with pl:=m.pl.reverse } W h1 h3 h4 (fun p hp=>hr p (List.mem_reverse.1 hp)) (by rw[List.length_reverse];omega))
 have HMK:=Lib.hid (show ∀W v b,Below w.heap.size w W->R4 W b v m.pl.reverse->MkV W #[.int .i64 m.len,.int .i64 m.wid,.int .i64 m.rx,.int .i64 m.ry,.slice M1 n1 d1,v] { m with pl:=m.pl.reverse } from fun W v b hb ho=>by rw[<-hn1];exact Ajj z1 z2 (z3.keep hb) ho)
 have HRV:=Lib.hid (fun (j:Nat) (h:j<n2)=>show m.pl.reverse.take (n2-(j+1))++[plc m.pl j]=m.pl.reverse.take (n2-j) by
  have:=vv (l:=m.pl) (k:=n2-(j+1)) (by omega)
  rw[show n2-(j+1)+1=n2-j by omega,show m.pl.length-1-(n2-(j+1))=j by omega] at this
  exact this.symm)
 have HRL:=Lib.hid (fun (j:Nat) (h:j<=n2)=>show (m.pl.reverse.take (n2-j)).length=n2-j from Acw _ _ (by omega))
 have HRT:=Lib.hid (show m.pl.reverse.take (n2-0)=m.pl.reverse by rw[List.take_of_length_le (by simp;omega)])
 rw[hn1] at hm ⊢;rw[hn2] at hm hpl ⊢;have HN:=Lib.hid hn2;clear hn1 hn2 hr;go_enter Tryz.func7,Tryz.ntmps7;go_upto_region 1 with fail;refine Ar (fun X=>Below w.heap.size w X/\Bb X w.heap.size 29 #[.string s.nm,.slice A1 s.sz.length c1,.slice A2 s.mu.length c2,.slice A3 s.pc.length c3,.slice A4 s.us.length c4,.slice A5 s.se.length c5,.slice A6 s.no c6]/\Bb X (w.heap.size+1) 38 #[.int .i64 m.len,.int .i64 m.wid,.int .i64 m.rx,.int .i64 m.ry,.slice M1 n1 d1,.slice M2 n2 d2]) ⟨An (An (Below.refl _ _) _) _,(Bb.new _ _ _).alloc _,Bb.new2 _ _ _ _⟩ ?_
 rintro X ⟨hbX,hP,hK⟩;obtain⟨p0,p1,p2,p3,p4,p5,p6⟩:=st7 hP;obtain⟨k0,k1,k2,k3,k4,k5⟩:=mk6 hK;have hvX:=hv.keep hbX;have hmX:=hm.keep hbX;go_cut [24] (fun v wx=>∃ok:Bool,v=.bool (!ok)/\(ok=true->Afn s n1/\n2<=8)/\Below X.heap.size X wx)
 case first =>
  by_cases h1:7<n1
  ·go_wp2_with fail
   go_meet;exact⟨false,rfl,fun h=>(by cases h),Below.refl _ _⟩
  ·by_cases h2:8<n2
   ·go_wp2_with fail
    go_meet;exact⟨false,rfl,fun h=>(by cases h),Below.refl _ _⟩
   ·go_wp2_with (go_at_call 21;refine(Sq _ s n1 _ hvX).mono ?_;rintro e w1 ⟨ok,rfl,hok,hb1⟩)
    go_meet;exact⟨ok,congrArg Value.bool (by rw[decide_eq_false (by omega),decide_eq_false (by omega)];rfl),fun h=>⟨hok h,by omega⟩,hb1⟩
 case rest =>
  obtain⟨ok,rfl,hok,hbc⟩:=hcut;have hPc:=hP.keep hbc;have hKc:=hK.keep hbc;have hbW:=Ao hbX hbc;have hvc:=hv.keep hbW;have hmc:=hm.keep hbW;obtain⟨q0,q1,q2,q3,q4,q5,q6⟩:=st7 hPc;obtain⟨l0,l1,l2,l3,l4,l5⟩:=mk6 hKc;clear hP hK hvX hmX p0 p1 p2 p3 p4 p5 p6 k0 k1 k2 k3 k4 k5;cases ok with
  | false =>
    go_wp2_with (go_at_call 9;refine(HA.out _).mono ?_;rintro e w9 ⟨rfl,hb9⟩)
    go_ret;exact⟨rfl,Ao hbW hb9⟩
  | true =>
    obtain⟨hsm0,h8⟩:=hok rfl;have hsm:=hsm0.1;go_upto_region 5 with fail;refine Ar (fun Y=>Below wc.heap.size wc Y/\Bb Y wc.heap.size 38 #[.int .i64 m.len,.int .i64 m.wid,.int .i64 m.rx,.int .i64 m.ry,.slice M1 n1 d1,.slice none 0 0]) ⟨An (Below.refl _ _) _,Bb.new _ _ _⟩ ?_
    rintro Y ⟨hbY,hBk⟩;obtain⟨B,hB⟩:∃g,wc.heap.size=g:=⟨_,rfl⟩
    have hltB:B<Y.heap.size:=by rw[<-hB];exact hBk.lt
    have hgB:w.heap.size+1<B:=by rw[<-hB];exact hKc.lt
    have hKY:=hKc.keep hbY;have hPY:=hPc.keep hbY;have hbWY:=Ao hbW hbY;have hvY:=hv.keep hbWY;have hmY:=hm.keep hbWY;have hplY:=hpl.keep hbWY;rw[hB] at hBk hbY ⊢;clear q0 q1 q2 q3 q4 q5 q6 l0 l1 l2 l3 l4 l5 hPc hKc hvc hmc hbc hbW hbY;obtain⟨l0,l1,l2,l3,l4,l5⟩:=mk6 hKY;go_upto_region 6 with fail;clear l0 l1 l2 l3 l4 l5;go_loopw [6] (fun i wr=>∃(r:Nat) (v:Value),r<=n2/\i=.int .i64 ((r:Int)-1)/\Bb wr B 38 #[.int .i64 m.len,.int .i64 m.wid,.int .i64 m.rx,.int .i64 m.ry,.slice M1 n1 d1,v]/\R4 wr (B+1) v (m.pl.reverse.take (n2-r))/\Below B Y wr/\B<wr.heap.size) (fun i _=>(intOf i+1).toNat)
    case atStart=>exact⟨n2,_,Nat.le_refl _,rfl,hBk,by rw[Nat.sub_self];exact OwG.nil,Below.refl _ _,hltB⟩
    case round =>
     obtain⟨r,v,hrn,rfl,hb,ho,hbl,hlr⟩:=hrel;have hbwr:=hbWY.trans (hbl.mono (show w.heap.size<=B by omega))
     have hKr:Bb wr (w.heap.size+1) 38 #[.int .i64 m.len,.int .i64 m.wid,.int .i64 m.rx,.int .i64 m.ry,.slice M1 n1 d1,.slice M2 n2 d2]:=(hbl.block _ hgB).trans hKY;rcases r with _|j
     ·rw[HRT.out] at ho
      have hmB:=HMK.out wr v (B+1) hbwr ho;have hmr:=hm.keep hbwr;have hvr:=hv.keep hbwr;have hPr:Bb wr w.heap.size 29 #[.string s.nm,.slice A1 s.sz.length c1,.slice A2 s.mu.length c2,.slice A3 s.pc.length c3,.slice A4 s.us.length c4,.slice A5 s.se.length c5,.slice A6 s.no c6]:=(hbl.block _ (by omega)).trans hPY
      obtain⟨A9,c9,hv9,-⟩:=kb ho;obtain⟨nb,hnb⟩:∃n,m.pl.reverse.length=n:=⟨_,rfl⟩
      rw[hnb] at hv9;subst hv9;obtain⟨r1,hr1⟩:∃r,(Fs s m).1=r:=⟨_,rfl⟩
      obtain⟨r2,hr2⟩:∃r,(Fs s { m with pl:=m.pl.reverse }).1=r:=⟨_,rfl⟩
      rw[hr1] at HM0 HOR;rw[hr2] at HM1 HOR;obtain⟨x,hx1⟩:∃x,(r1 == 0)=x:=⟨_,rfl⟩
      have hx2:(r2 == 0)=x:=by
       rw[<-hx1];by_cases h:r1=0
       ·rw[h,HOR.out.1 h]
       ·rw[beq_false_of_ne h,beq_false_of_ne (fun g=>h (HOR.out.2 g))]
      have hbD:=Aw (Below.refl wr.heap.size wr)
      have KF:∀W',Below wr.heap.size wr W'->W'.cell? ⟨w.heap.size,0,none⟩=some (.string s.nm)/\W'.cell? ⟨w.heap.size,1,none⟩=some (.slice A1 s.sz.length c1)/\W'.cell? ⟨w.heap.size,2,none⟩=some (.slice A2 s.mu.length c2)/\W'.cell? ⟨w.heap.size,3,none⟩=some (.slice A3 s.pc.length c3)/\W'.cell? ⟨w.heap.size,4,none⟩=some (.slice A4 s.us.length c4)/\W'.cell? ⟨w.heap.size,5,none⟩=some (.slice A5 s.se.length c5)/\W'.cell? ⟨w.heap.size,6,none⟩=some (.slice A6 s.no c6)/\W'.cell? ⟨w.heap.size+1,0,none⟩=some (.int .i64 m.len)/\W'.cell? ⟨w.heap.size+1,1,none⟩=some (.int .i64 m.wid)/\W'.cell? ⟨w.heap.size+1,2,none⟩=some (.int .i64 m.rx)/\W'.cell? ⟨w.heap.size+1,3,none⟩=some (.int .i64 m.ry)/\W'.cell? ⟨w.heap.size+1,4,none⟩=some (.slice M1 n1 d1)/\W'.cell? ⟨w.heap.size+1,5,none⟩=some (.slice M2 n2 d2)/\W'.cell? ⟨B,0,none⟩=some (.int .i64 m.len)/\W'.cell? ⟨B,1,none⟩=some (.int .i64 m.wid)/\W'.cell? ⟨B,2,none⟩=some (.int .i64 m.rx)/\W'.cell? ⟨B,3,none⟩=some (.int .i64 m.ry)/\W'.cell? ⟨B,4,none⟩=some (.slice M1 n1 d1)/\W'.cell? ⟨B,5,none⟩=some (.slice A9 nb c9):=fun W' hb'=>by
       obtain⟨a0,a1,a2,a3,a4,a5,a6⟩:=st7 (hPr.keep hb');obtain⟨b0,b1,b2,b3,b4,b5⟩:=mk6 (hKr.keep hb');obtain⟨d0,d1,d2,d3,d4,d5⟩:=mk6 (hb.keep hb');exact⟨a0,a1,a2,a3,a4,a5,a6,b0,b1,b2,b3,b4,b5,d0,d1,d2,d3,d4,d5⟩
      clear hPr hKr hb ho hr1 hr2 hnb hPY hKY hbl hbWY hplY hvY hmY hpl;go_upto_region 9 with fail
      go_region_held3 (fun W'=>W'.cell? ⟨w.heap.size,0,none⟩=some (.string s.nm)/\W'.cell? ⟨w.heap.size,1,none⟩=some (.slice A1 s.sz.length c1)/\W'.cell? ⟨w.heap.size,2,none⟩=some (.slice A2 s.mu.length c2)/\W'.cell? ⟨w.heap.size,3,none⟩=some (.slice A3 s.pc.length c3)/\W'.cell? ⟨w.heap.size,4,none⟩=some (.slice A4 s.us.length c4)/\W'.cell? ⟨w.heap.size,5,none⟩=some (.slice A5 s.se.length c5)/\W'.cell? ⟨w.heap.size,6,none⟩=some (.slice A6 s.no c6)/\W'.cell? ⟨w.heap.size+1,0,none⟩=some (.int .i64 m.len)/\W'.cell? ⟨w.heap.size+1,1,none⟩=some (.int .i64 m.wid)/\W'.cell? ⟨w.heap.size+1,2,none⟩=some (.int .i64 m.rx)/\W'.cell? ⟨w.heap.size+1,3,none⟩=some (.int .i64 m.ry)/\W'.cell? ⟨w.heap.size+1,4,none⟩=some (.slice M1 n1 d1)/\W'.cell? ⟨w.heap.size+1,5,none⟩=some (.slice M2 n2 d2)/\W'.cell? ⟨B,0,none⟩=some (.int .i64 m.len)/\W'.cell? ⟨B,1,none⟩=some (.int .i64 m.wid)/\W'.cell? ⟨B,2,none⟩=some (.int .i64 m.rx)/\W'.cell? ⟨B,3,none⟩=some (.int .i64 m.ry)/\W'.cell? ⟨B,4,none⟩=some (.slice M1 n1 d1)/\W'.cell? ⟨B,5,none⟩=some (.slice A9 nb c9))
       (first
        | with_reducible exact KF _ hbD
        | with_reducible exact KF _ (Below.refl _ _))
       ((first
         | (go_at_call 9;refine(HA.out _).mono ?_;rintro e w9 ⟨rfl,hb9⟩;replace hbD:=Ao hbD hb9)
         | (go_at_call 19;(with_reducible refine(HM1.out _ (.slice A9 nb c9) hsm h8 (hvr.keep hbD) (hmB.keep hbD)).mono ?_);rintro e w8 ⟨rfl,hb8⟩;replace hbD:=Ao hbD hb8)
         | (go_at_call 19;(with_reducible refine(HM0.out _ hsm h8 (hvr.keep hbD) (hmr.keep hbD)).mono ?_);rintro e w7 ⟨rfl,hb7⟩;replace hbD:=Ao hbD hb7)))
      all_goals go_wp2_with fail
      all_goals go_ret
      all_goals exact⟨rfl,Ao hbwr hbD⟩
     ·have hj:j<n2:=by omega
      have e:((j+1:Nat):Int)-1=(j:Int):=by omega
      rw[e];clear e;obtain⟨b0,o0,rfl,hc⟩:=(hpl.keep hbwr).at_ hj;obtain⟨e0,e1,e2,e3,e4,e5,e6⟩:=hc j hj;have HV:=HRV.out j hj;obtain⟨pj,hpj⟩:∃p,plc m.pl j=p:=⟨_,rfl⟩
      rw[hpj] at e0 e1 e2 e3 e4 e5 e6 HV;obtain⟨L,hL⟩:∃L,m.pl.reverse.take (n2-(j+1))=L:=⟨_,rfl⟩
      have hLl:=HRL.out (j+1) (by omega)
      rw[hL] at HV hLl ho;have hL8:L.length<=8:=by omega
      have HV:=Lib.hid HV;obtain⟨ga,us,cp,fl,qu,x,y⟩:=pj;dsimp only at e0 e1 e2 e3 e4 e5 e6;obtain⟨l0,l1,l2,l3,l4,l5⟩:=mk6 hKr;obtain⟨f0,f1,f2,f3,f4,f5⟩:=mk6 hb;have B1:(j:Int)<(n2:Int):=by omega
      have hown:=fun k hk=>(OwG.lt ho k hk).1
      clear hc hpj hL hLl hPY hKY hplY hvY hmY;obtain⟨i0,hi0,hz0,hz1,hz2⟩:=info_parts Abq;go_upto_region 8 with fail
      go_region_law ((refine Il rfl _ _ 36 rfl ew (B+1) 51 i0 (.agg #[.int .i64 0,.int .i64 0,.int .i64 0,.bool false,.int .i64 0,.int .i64 0,.int .i64 0]) 7 56 Tryz.underlying36 hi0 hz0 hz1 hz2 rfl (by omega) Rj Yq v L rfl (OwG.keep (OwG.alloc ho _) (Aw (Below.refl _ _))) wr.heap.size 1 ⟨ga,us,cp,fl,qu,x,y⟩ 51 rfl (Bb.drew (Bb.new _ _ _)) (by unfold maxLen;omega) (by omega) (by simp;omega) (wr.heap.size+1) (by simp) ?_;intro gg cap wv hov hgv hat hlv;have fv:=Bb.grown ((hb.alloc _).drew) hgv (by intro e;have:=hown _ e.symm;omega);obtain⟨y0,y1,y2,y3,y4,y5⟩:=mk6 fv;have z5:=fv.frozen 5))
      all_goals go_wp2_with fail
      all_goals exact⟨⟨j,_,by omega,rfl,fv.set_ 5 _,by rw[<-HV.out];exact OwG.keepAbove hov (fun k hk _=>Dq _ _ _ _ (by omega)),Below.setCell (Below.grown (Hw (Below.alloc hbl (by omega) _)) hgv (by simp;omega) (fun k hk=>by have:=hown k hk;omega)) (Nat.le_refl _) _,(fv.set_ 5 _).lt⟩,by simp[intOf]⟩
theorem bf (aw:Aih) (v0 v1 v2 v3 v4 v5 v6:Value) (s:StyleP) (b:Bed4) (A:Option Addr) (n c:Nat) (Z:List Int) (mo:Int) (w:World) (hv:StV w #[v0,v1,v2,v3,v4,v5,v6] s) (hn:n<=c) (hcc:c<=9223372036854775807) (hnil:A=none->c=0) (hZ:InS w A n Z) (hmo:0<=mo/\mo<=65535) :
 Calls Tryz.prog 5 #[.agg #[v0,v1,v2,v3,v4,v5,v6,.int .i64 b.len,.int .i64 b.wid,.int .i64 b.rx,.int .i64 b.ry,.slice A n c],.int .u16 mo] w fun e w'=>e=.returned (.bool true)/\Below w.heap.size w w':=by
 obtain⟨A1,c1,A2,c2,A3,c3,A4,c4,A5,c5,A6,c6,e,-⟩:=id hv;have e:=congrArg Array.toList e;simp at e;obtain⟨rfl,rfl,rfl,rfl,rfl,rfl,rfl⟩:=e;have HA:=Lib.hid aw;have HBU:=Lib.hid (fun (W:World) (h1:InS W A n Z) (h2:StV W #[.string s.nm,.slice A1 s.sz.length c1,.slice A2 s.mu.length c2,.slice A3 s.pc.length c3,.slice A4 s.us.length c4,.slice A5 s.se.length c5,.slice A6 s.no c6] s)=>rh #[.string s.nm,.slice A1 s.sz.length c1,.slice A2 s.mu.length c2,.slice A3 s.pc.length c3,.slice A4 s.us.length c4,.slice A5 s.se.length c5,.slice A6 s.no c6] s b A n c Z W hn hcc hnil h1 h2)
 obtain⟨len,wid,rx,ry⟩:=b;unfold Hz at HBU;dsimp only at HBU ⊢;go_enter Tryz.func5,Tryz.ntmps5;go_upto_region 1 with fail;refine Ar (fun X=>Below w.heap.size w X/\Bb X w.heap.size 35 #[.string s.nm,.slice A1 s.sz.length c1,.slice A2 s.mu.length c2,.slice A3 s.pc.length c3,.slice A4 s.us.length c4,.slice A5 s.se.length c5,.slice A6 s.no c6,.int .i64 len,.int .i64 wid,.int .i64 rx,.int .i64 ry,.slice A n c]) ⟨An (Below.refl _ _) _,Bb.new _ _ _⟩ ?_
 rintro X ⟨hbX,hC⟩;obtain⟨k0,k1,k2,k3,k4,k5,k6,k7,k8,k9,k10,k11⟩:=Akm hC;go_upto_region 2 with fail;refine Ar (fun Y=>Below X.heap.size X Y/\Bb Y X.heap.size 29 #[.string s.nm,.slice A1 s.sz.length c1,.slice A2 s.mu.length c2,.slice A3 s.pc.length c3,.slice A4 s.us.length c4,.slice A5 s.se.length c5,.slice A6 s.no c6]) ⟨An (Below.refl _ _) _,Bb.new _ _ _⟩ ?_
 rintro Y ⟨hbY,hP⟩;obtain⟨p0,p1,p2,p3,p4,p5,p6⟩:=st7 hP;have hCY:=hC.keep hbY;obtain⟨GS,hGS⟩:∃g,X.heap.size=g:=⟨_,rfl⟩
 rw[hGS] at hP p0 p1 p2 p3 p4 p5 p6 ⊢;have hbWY:=Ao hbX hbY;have hvY:=hv.keep hbWY;have hZY:=hZ.keep hbWY;clear k0 k1 k2 k3 k4 k5 k6 k7 k8 k9 k10 k11 hC hbY hGS hbX;obtain⟨k0,k1,k2,k3,k4,k5,k6,k7,k8,k9,k10,k11⟩:=Akm hCY
 go_upto_region 3 with (go_at_call 8;refine(HBU.out _ hZY hvY).mono ?_;rintro e w1 ⟨ms,ok,m,rfl,hmk,hb1,hok⟩;replace hmk:=hmk w1 (fun _ _ _=>rfl);obtain⟨M1,d1,M2,d2,rfl,-⟩:=id hmk)
 refine Ar (fun T=>Below w1.heap.size w1 T/\Bb T w1.heap.size 38 #[.int .i64 m.len,.int .i64 m.wid,.int .i64 m.rx,.int .i64 m.ry,.slice M1 m.sz.length d1,.slice M2 m.pl.length d2]) ⟨An (Below.refl _ _) _,Bb.new _ _ _⟩ ?_
 rintro T ⟨hbT,hM⟩;have hbYT:=Ao hb1 hbT;have hPT:=hP.keep hbYT;have hvT:=hvY.keep hbYT;have hmT:=hmk.keep hbT;have hbWT:=Ao hbWY hbYT;obtain⟨GM,hGM⟩:∃g,w1.heap.size=g:=⟨_,rfl⟩
 rw[hGM] at hM ⊢;clear k0 k1 k2 k3 k4 k5 k6 k7 k8 k9 k10 k11 p0 p1 p2 p3 p4 p5 p6 hCY hP hvY hZY hmk hbWY hb1 hbT hbYT hGM hv hZ;obtain⟨p0,p1,p2,p3,p4,p5,p6⟩:=st7 hPT;obtain⟨m0,m1,m2,m3,m4,m5⟩:=mk6 hM;obtain⟨n2,hn2⟩:∃n,m.pl.length=n:=⟨_,rfl⟩
 cases ok with
 | false =>
   go_wp2_with (go_at_call 9;refine(HA.out _).mono ?_;rintro e w9 ⟨rfl,hb9⟩)
   go_ret;exact⟨rfl,Ao hbWT hb9⟩
 | true =>
   by_cases h0:n2=0
   ·have hq:((n2:Int) == 0)=true:=by rw[h0];rfl
    rw[hn2] at m5;clear h0 hn2
    go_wp2_with (go_at_call 9;refine(HA.out _).mono ?_;rintro e w9 ⟨rfl,hb9⟩)
    go_ret;exact⟨rfl,Ao hbWT hb9⟩
   ·obtain⟨hsm,hbw,hmm⟩:=hok rfl
    have hl:=Kn hbw (by rw[<-hmm];omega)
    obtain⟨ko,k60⟩:=ri hbw;rw[<-hmm] at hl ko k60;obtain⟨q1,q2,q3,q4⟩:=hl;obtain⟨n1,hn1⟩:∃n,m.sz.length=n:=⟨_,rfl⟩
    have hmT':=fun (W:World) (hb:Below T.heap.size T W) (l:Int)=>MkV.ln (hmT.keep hb) l
    have HC:=Lib.hid (fun (W:World) (l:Int) (h1:StV W #[.string s.nm,.slice A1 s.sz.length c1,.slice A2 s.mu.length c2,.slice A3 s.pc.length c3,.slice A4 s.us.length c4,.slice A5 s.se.length c5,.slice A6 s.no c6] s) (h2:Below T.heap.size T W)=>Jb _ s _ { m with len:=l } W hsm.1 h1 (hmT' W h2 l) ko (by dsimp only;omega))
    rw[hn1] at HC hM m4;rw[hn2] at HC hM m5;obtain⟨ml,hml⟩:∃l,m.len=l:=⟨_,rfl⟩
    rw[hml] at hM m0 q1 q2 q3 q4;have HL:=Lib.hid (q3 (min (ml+mo) 1048576) (by omega) (by omega))
    have HS:=Lib.hid q4;have hx:((n2:Int) == 0)=false:=by simpa using h0
    clear q3 q4 hmT hmT' hmm hok hn1 hn2 hml h0 ko k60
    have KF:∀W',Below T.heap.size T W'->W'.cell? ⟨GM,0,none⟩=some (.int .i64 ml)/\W'.cell? ⟨GM,1,none⟩=some (.int .i64 m.wid)/\W'.cell? ⟨GM,2,none⟩=some (.int .i64 m.rx)/\W'.cell? ⟨GM,3,none⟩=some (.int .i64 m.ry)/\W'.cell? ⟨GM,4,none⟩=some (.slice M1 n1 d1)/\W'.cell? ⟨GM,5,none⟩=some (.slice M2 n2 d2):=fun W' hb'=>by
     obtain⟨b0,b1,b2,b3,b4,b5⟩:=mk6 (hM.keep hb');exact⟨b0,b1,b2,b3,b4,b5⟩
    have hTM:=hM.lt;go_upto_region 5 with fail;clear m0 m1 m2 m3 m4 m5 p0 p1 p2 p3 p4 p5 p6;go_cut [8,9] (fun v8 v9 wx=>∃g8 g9,v8=.pointer (some ⟨g8,0,none⟩)/\v9=.pointer (some ⟨g9,0,none⟩)/\g8≠g9/\T.heap.size<=g8/\T.heap.size<=g9/\Bb wx g8 38 #[.int .i64 ml,.int .i64 m.wid,.int .i64 m.rx,.int .i64 m.ry,.slice M1 n1 d1,.slice M2 n2 d2]/\Bb wx g9 38 #[.int .i64 ml,.int .i64 m.wid,.int .i64 m.rx,.int .i64 m.ry,.slice M1 n1 d1,.slice M2 n2 d2]/\Below T.heap.size T wx)
    case first =>
     go_region_held3 (fun W'=>W'.cell? ⟨GM,0,none⟩=some (.int .i64 ml)/\W'.cell? ⟨GM,1,none⟩=some (.int .i64 m.wid)/\W'.cell? ⟨GM,2,none⟩=some (.int .i64 m.rx)/\W'.cell? ⟨GM,3,none⟩=some (.int .i64 m.ry)/\W'.cell? ⟨GM,4,none⟩=some (.slice M1 n1 d1)/\W'.cell? ⟨GM,5,none⟩=some (.slice M2 n2 d2))
      (first
       | with_reducible exact KF _ (Aw (Below.refl _ _))
       | with_reducible exact KF _ (Below.refl _ _)
       | with_reducible exact KF _ (Aw (An (Below.refl _ _) _))
       | with_reducible exact KF _ (An (Below.refl _ _) _)
       | with_reducible exact KF _ (Aw (An (An (Below.refl _ _) _) _))
       | with_reducible exact KF _ (An (An (Below.refl _ _) _) _))
      ((first|fail))
     all_goals go_wp2_with fail
     all_goals go_meet
     all_goals first
      | exact⟨_,_,rfl,rfl,by omega,by omega,by omega,dk0 _ _ _ _,dk1 _ _ _ _,Aw (An (An (Below.refl _ _) _) _)⟩
      | exact⟨_,_,rfl,rfl,by omega,by omega,by omega,dk1 _ _ _ _,dk0 _ _ _ _,Aw (An (An (Below.refl _ _) _) _)⟩
    case rest =>
     obtain⟨g8,g9,rfl,rfl,hne,hg8,hg9,h8,h9,hbc⟩:=hcut;obtain⟨m0,-,-,-,-,-⟩:=KF _ hbc;have z8:=h8.frozen 0;obtain⟨a0,-,-,-,-,-⟩:=mk6 h8;go_upto_region 7 with fail;refine Ar (fun Y=>Bb Y g8 38 #[.int .i64 (min (ml+mo) 1048576),.int .i64 m.wid,.int .i64 m.rx,.int .i64 m.ry,.slice M1 n1 d1,.slice M2 n2 d2]/\Bb Y g9 38 #[.int .i64 ml,.int .i64 m.wid,.int .i64 m.rx,.int .i64 m.ry,.slice M1 n1 d1,.slice M2 n2 d2]/\Below T.heap.size T Y) ⟨h8.set_ 0 _,h9.far hne.symm _,Bc hbc hg8 _⟩ ?_
     rintro Y1 ⟨h8,h9,hbc⟩;obtain⟨m0,-,-,-,-,-⟩:=KF _ hbc;have z9:=h9.frozen 0;obtain⟨a0,-,-,-,-,-⟩:=mk6 h9;go_upto_region 8 with fail;refine Ar (fun Y=>Bb Y g8 38 #[.int .i64 (min (ml+mo) 1048576),.int .i64 m.wid,.int .i64 m.rx,.int .i64 m.ry,.slice M1 n1 d1,.slice M2 n2 d2]/\Bb Y g9 38 #[.int .i64 (ml-1),.int .i64 m.wid,.int .i64 m.rx,.int .i64 m.ry,.slice M1 n1 d1,.slice M2 n2 d2]/\Below T.heap.size T Y) ⟨h8.far hne _,h9.set_ 0 _,Bc hbc hg9 _⟩ ?_
     rintro Y2 ⟨h8,h9,hbc⟩;obtain⟨lx,hlx⟩:∃l,min (ml+mo) 1048576=l:=⟨_,rfl⟩
     obtain⟨ly,hly⟩:∃l,ml-1=l:=⟨_,rfl⟩
     rw[hlx] at h8 HL;rw[hly] at h9 HS;obtain⟨a0,a1,a2,a3,a4,a5⟩:=mk6 h8;obtain⟨b0,b1,b2,b3,b4,b5⟩:=mk6 h9;obtain⟨p0,p1,p2,p3,p4,p5,p6⟩:=st7 (hPT.keep hbc);have hvY:=hvT.keep hbc;have hb1:=hbc;clear hlx hly m0 z8 z9;by_cases hlt:ly<1
     ·have HX:=Lib.hid (show (Fs s { m with len:=ly }).1=3 by rw[HS.out,if_pos hlt])
      go_wp2_with (first
       | (go_at_call 9;refine(HA.out _).mono ?_;rintro e w9 ⟨rfl,hb9⟩)
       | (go_at_call 19;have hz9:=hb7;refine(HC.out _ ly (hvY.keep hb7) (Ao hbc hb7)).mono ?_;rintro e w8 ⟨rfl,hb8⟩;rw[HX.out])
       | (go_at_call 19;refine(HC.out _ lx hvY hbc).mono ?_;rintro e w7 ⟨rfl,hb7⟩;rw[HL.out];obtain⟨c0,c1,c2,c3,c4,c5⟩:=mk6 (h9.keep hb7);obtain⟨q0,q1,q2,q3,q4,q5,q6⟩:=st7 ((hPT.keep hbc).keep hb7)))
      go_ret;exact⟨rfl,Ao hbWT (Ao (Ao (Ao hbc hb7) hb8) hb9)⟩
     ·have HX:=Lib.hid (show (Fs s { m with len:=ly }).1=13 by rw[HS.out,if_neg hlt])
      go_wp2_with (first
       | (go_at_call 9;refine(HA.out _).mono ?_;rintro e w9 ⟨rfl,hb9⟩)
       | (go_at_call 19;have hz9:=hb7;refine(HC.out _ ly (hvY.keep hb7) (Ao hbc hb7)).mono ?_;rintro e w8 ⟨rfl,hb8⟩;rw[HX.out])
       | (go_at_call 19;refine(HC.out _ lx hvY hbc).mono ?_;rintro e w7 ⟨rfl,hb7⟩;rw[HL.out];obtain⟨c0,c1,c2,c3,c4,c5⟩:=mk6 (h9.keep hb7);obtain⟨q0,q1,q2,q3,q4,q5,q6⟩:=st7 ((hPT.keep hbc).keep hb7)))
      go_ret;exact⟨rfl,Ao hbWT (Ao (Ao (Ao hbc hb7) hb8) hb9)⟩
end Go.Proofs.YtpbchbcdgikonaaGreat
