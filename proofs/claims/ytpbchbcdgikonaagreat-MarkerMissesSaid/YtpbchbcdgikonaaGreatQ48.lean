/- Lean texts of the claim. -/
import Derived.Test.YtpbchbcdgikonaaGreatQ46
namespace Go.Proofs.YtpbchbcdgikonaaGreat
set_option linter.unusedVariables false
set_option linter.unusedSimpArgs false
set_option maxRecDepth 100000
set_option maxHeartbeats 4000000
open Go.RowKit
theorem ra {w:World} {ad:Addr} {m:Nat} {l:List PlcP} (h:PlS w (some ad) m l):∀j u,(l.flatMap ew)[j]? = some u->w.cell? (ad.add j)=some u:=by
 intro j u hj;have hlen:=Cy Rj l
 have hjl:j<(l.flatMap ew).length:=by
  rcases Nat.lt_or_ge j (l.flatMap ew).length with h1|h1
  ·exact h1
  ·rw[List.getElem?_eq_none h1] at hj;cases hj
 rw[hlen,h.1] at hjl;have hk:j / 7<m:=by omega
 obtain⟨b,off,e,hc⟩:=h.at_ hk;injection e with e
 subst e;have hf0:=Bp Rj l (j / 7) (j % 7) _ (Xp (by rw[h.1];exact hk)) (by omega)
 rw[show j / 7*7+j % 7=j by omega,hj] at hf0
 obtain⟨k0,k1,k2,k3,k4,k5,k6⟩:=hc (j / 7) hk
 have ea:(⟨b,off,none⟩:Addr).add j=⟨b,off+j,none⟩:=by
  unfold Addr.add;by_cases h0:j=0
  ·subst h0;simp
  ·simp[h0]
 rw[ea];obtain⟨r,hr⟩:∃r,j % 7=r:=⟨_,rfl⟩
 have hr7:r<7:=by omega
 have e2:off+j=off+j / 7*7+r:=by omega
 rw[hr] at hf0;rw[e2]
 match r,hr7 with
 | 0,_=>rw[hf0];exact k0
 | 1,_=>rw[hf0];exact k1
 | 2,_=>rw[hf0];exact k2
 | 3,_=>rw[hf0];exact k3
 | 4,_=>rw[hf0];exact k4
 | 5,_=>rw[hf0];exact k5
 | 6,_=>rw[hf0];exact k6
theorem V0 {w:World} {ops:Array Oper} {o:Oper} {a:Act} {K:Act->World->Prop} {Q:Exit->Act->World->Prop} {Z:Prop} (hgd:o.guard=none) (s x:Operand)
 (ho:o.op=.call { callee:=.builtin .append,args:=#[s,x],argTypes:=#[36,36] })
 (base:Nat) (v:Value) (l:List PlcP) (hs:a.eval s=v) (hown:R4 w base v l)
 (ad:Addr) (m c:Nat) (l2:List PlcP) (hx:a.eval x=.slice (some ad) m c) (hr:PlS w (some ad) m l2)
 (hlen:l.length+m<=1000000) (hbase:base<=w.heap.size)
 (h:∀v' w',R4 w' base v' (l++l2)->w.grownBy w' v.ownBlock->(v'.ownBlock=v.ownBlock\/v'.ownBlock=some w.heap.size)->K (a.put o.dst v') w') :
 if Region.wanted o (yielded ops a.tmps)=true then Oper.wp Tryz.prog o a w K Q else Z:=by
 obtain⟨i,hi,hz0,hz1,hz2⟩:=info_parts Abq;have hw:Region.wanted o (yielded ops a.tmps)=true:=by simp[Region.wanted,hgd]
 rw[if_pos hw]
 obtain⟨v',w',hr2,h2,h3,-,h5⟩:=run_append_own_at (P:=Tryz.prog) w base 36 o.type 51 i (.agg #[.int .i64 0,.int .i64 0,.int .i64 0,.bool false,.int .i64 0,.int .i64 0,.int .i64 0]) 7 56 Tryz.underlying36 hi hz0 hz1 hz2 rfl (by omega) v l.length (l.flatMap ew) hown ad m c (l2.flatMap ew) (by rw[Cy Rj,hr.1]) (ra hr) (fun u hu=>by
  obtain⟨p,_,hp⟩:=List.mem_flatMap.1 hu;exact Yq p u hp) (by unfold maxLen;omega) (by omega) hbase
 unfold Oper.wp execOp;simp only[ho,resolve,invoke,builtin,Sem.run_bind,Sem.run_pure,Result.andThen_ok,List.map_toArray,List.map_cons,List.map_nil,hs,hx,hr2];refine h v' w' ?_ h3 h5;unfold R4 OwG;rw[List.length_append,List.flatMap_append,hr.1];exact h2
theorem PlS.take {w:World} {A:Option Addr} {n i:Nat} {l:List PlcP} (h:PlS w A n l) (hi:i<=n):PlS w A i (l.take i):=by
 refine⟨by rw[List.length_take,h.1];omega,?_⟩
 rcases h.2 with h2|⟨b,off,rfl,h2⟩
 ·exact .inl (by omega)
 ·refine .inr ⟨b,off,rfl,fun k hk=>?_⟩
  have:plc (l.take i) k=plc l k:=by unfold plc;rw[List.getD,List.getD,List.getElem?_take_of_lt hk]
  rw[this];exact h2 k (by omega)
theorem PlS.drop {w:World} {b off n i:Nat} {l:List PlcP} (h:PlS w (some ⟨b,off,none⟩) n l) (hi:i<=n):PlS w (some ⟨b,off+i*7,none⟩) (n-i) (l.drop i):=by
 refine⟨by rw[List.length_drop,h.1],?_⟩
 rcases Nat.eq_zero_or_pos (n-i) with g|g
 ·exact .inl g
 ·refine .inr ⟨b,off+i*7,rfl,fun k hk=>?_⟩
  obtain⟨b',o',e,h2⟩:=h.at_ (show i<n by omega)
  injection e with e
  injection e with e1 e2
  subst e1 e2;have:plc (l.drop i) k=plc l (i+k):=by unfold plc;rw[List.getD,List.getD,List.getElem?_drop]
  rw[this,show off+i*7+k*7=off+(i+k)*7 by omega]
  exact h2 _ (by omega)
theorem ml (w:World) {base:Nat} (h:base<=w.heap.size):R4 (w.alloc (.cells #[] 51)) base (.slice (some ⟨w.heap.size,0,none⟩) 0 0) [] :=
 ⟨rfl,.inr ⟨_,0,#[],rfl,h,Bb.new w _ _,Nat.le_refl _,by unfold maxLen;omega,rfl,rfl⟩⟩
theorem Ami (w:World) {g base:Nat} (hg:g=w.heap.size) (h:base<=w.heap.size):R4 (w.alloc (.cells #[] 51)) base (.slice (some ⟨g,0,none⟩) 0 0) []:=by
 subst hg;exact ml w h
theorem OwG.setFar {α:Type} {e:TypeId} {sz:Nat} {en:α->List Value} {w:World} {b g o:Nat} {v u:Value} {l:List α} (h:OwG e sz en w b v l) (hne:some g≠v.ownBlock):OwG e sz en (w.setCell ⟨g,o,none⟩ u) b v l:=by
 obtain⟨h1,h2⟩:=h;refine⟨h1,?_⟩;rcases h2 with h2|⟨gg,cap,cur,rfl,a,b,c⟩
 ·exact .inl h2
 ·exact .inr ⟨gg,cap,cur,rfl,a,(Dq _ _ _ _ (fun e=>hne (by rw[<-e];rfl))).trans b,c⟩
theorem rb (aw:Aih) (v0 v1 v2 v3 v4 v5 v6:Value) (s:StyleP) (b:Bed4) (A:Option Addr) (n c:Nat) (Z:List Int) (kk:Int) (w:World) (hv:StV w #[v0,v1,v2,v3,v4,v5,v6] s) (hn:n<=c) (hcc:c<=9223372036854775807) (hnil:A=none->c=0) (hZ:InS w A n Z) (hmo:0<=kk/\kk<=255) :
 Calls Tryz.prog 4 #[.agg #[v0,v1,v2,v3,v4,v5,v6,.int .i64 b.len,.int .i64 b.wid,.int .i64 b.rx,.int .i64 b.ry,.slice A n c],.int .u8 kk] w fun e w'=>e=.returned (.bool true)/\Below w.heap.size w w':=by
 obtain⟨A1,c1,A2,c2,A3,c3,A4,c4,A5,c5,A6,c6,e,-⟩:=id hv;have e:=congrArg Array.toList e;simp at e;obtain⟨rfl,rfl,rfl,rfl,rfl,rfl,rfl⟩:=e;have HA:=Lib.hid aw;have HBU:=Lib.hid (fun (W:World) (h1:InS W A n Z) (h2:StV W #[.string s.nm,.slice A1 s.sz.length c1,.slice A2 s.mu.length c2,.slice A3 s.pc.length c3,.slice A4 s.us.length c4,.slice A5 s.se.length c5,.slice A6 s.no c6] s)=>rh #[.string s.nm,.slice A1 s.sz.length c1,.slice A2 s.mu.length c2,.slice A3 s.pc.length c3,.slice A4 s.us.length c4,.slice A5 s.se.length c5,.slice A6 s.no c6] s b A n c Z W hn hcc hnil h1 h2)
 obtain⟨len,wid,rx,ry⟩:=b;unfold Hz at HBU;dsimp only at HBU ⊢;go_enter Tryz.func4,Tryz.ntmps4;go_upto_region 1 with fail;refine Ar (fun X=>Below w.heap.size w X/\Bb X w.heap.size 35 #[.string s.nm,.slice A1 s.sz.length c1,.slice A2 s.mu.length c2,.slice A3 s.pc.length c3,.slice A4 s.us.length c4,.slice A5 s.se.length c5,.slice A6 s.no c6,.int .i64 len,.int .i64 wid,.int .i64 rx,.int .i64 ry,.slice A n c]) ⟨An (Below.refl _ _) _,Bb.new _ _ _⟩ ?_
 rintro X ⟨hbX,hC⟩;obtain⟨k0,k1,k2,k3,k4,k5,k6,k7,k8,k9,k10,k11⟩:=Akm hC;go_upto_region 2 with fail;refine Ar (fun Y=>Below X.heap.size X Y/\Bb Y X.heap.size 29 #[.string s.nm,.slice A1 s.sz.length c1,.slice A2 s.mu.length c2,.slice A3 s.pc.length c3,.slice A4 s.us.length c4,.slice A5 s.se.length c5,.slice A6 s.no c6]) ⟨An (Below.refl _ _) _,Bb.new _ _ _⟩ ?_
 rintro Y ⟨hbY,hP⟩;obtain⟨p0,p1,p2,p3,p4,p5,p6⟩:=st7 hP;have hCY:=hC.keep hbY;obtain⟨GS,hGS⟩:∃g,X.heap.size=g:=⟨_,rfl⟩
 rw[hGS] at hP p0 p1 p2 p3 p4 p5 p6 ⊢;have hbWY:=Ao hbX hbY;have hvY:=hv.keep hbWY;have hZY:=hZ.keep hbWY;clear k0 k1 k2 k3 k4 k5 k6 k7 k8 k9 k10 k11 hC hbY hGS hbX;obtain⟨k0,k1,k2,k3,k4,k5,k6,k7,k8,k9,k10,k11⟩:=Akm hCY
 go_upto_region 3 with (go_at_call 8;refine(HBU.out _ hZY hvY).mono ?_;rintro e w1 ⟨ms,ok,m,rfl,hmk,hb1,hok⟩;replace hmk:=hmk w1 (fun _ _ _=>rfl);obtain⟨M1,d1,M2,d2,rfl,-⟩:=id hmk)
 refine Ar (fun T=>Below w1.heap.size w1 T/\Bb T w1.heap.size 38 #[.int .i64 m.len,.int .i64 m.wid,.int .i64 m.rx,.int .i64 m.ry,.slice M1 m.sz.length d1,.slice M2 m.pl.length d2]) ⟨An (Below.refl _ _) _,Bb.new _ _ _⟩ ?_
 rintro T ⟨hbT,hM⟩;have hbYT:=Ao hb1 hbT;have hPT:=hP.keep hbYT;have hvT:=hvY.keep hbYT;have hmT:=hmk.keep hbT;have hbWT:=Ao hbWY hbYT;obtain⟨GM,hGM⟩:∃g,w1.heap.size=g:=⟨_,rfl⟩
 rw[hGM] at hM ⊢;clear k0 k1 k2 k3 k4 k5 k6 k7 k8 k9 k10 k11 p0 p1 p2 p3 p4 p5 p6 hCY hP hvY hZY hmk hbWY hb1 hbT hbYT hGM hv hZ;obtain⟨p0,p1,p2,p3,p4,p5,p6⟩:=st7 hPT;obtain⟨m0,m1,m2,m3,m4,m5⟩:=mk6 hM;obtain⟨n2,hn2⟩:∃n,m.pl.length=n:=⟨_,rfl⟩
 cases ok with
 | false =>
   go_wp2_with (go_at_call 9;refine(HA.out _).mono ?_;rintro e w9 ⟨rfl,hb9⟩)
   go_ret;exact⟨rfl,Ao hbWT hb9⟩
 | true =>
   by_cases h0:n2=0
   ·have hq:((n2:Int) == 0)=true:=by rw[h0];rfl
    rw[hn2] at m5;clear h0 hn2
    go_wp2_with (go_at_call 9;refine(HA.out _).mono ?_;rintro e w9 ⟨rfl,hb9⟩)
    go_ret;exact⟨rfl,Ao hbWT hb9⟩
   ·obtain⟨hsm,hbw,hmm⟩:=hok rfl
    obtain⟨r,hr⟩:∃r:Nat,kk % (n2:Int)=r:=⟨(kk % (n2:Int)).toNat,by have:=Int.emod_nonneg kk (b:=(n2:Int)) (by omega);omega⟩
    have hrn:r<n2:=by have:=Int.emod_lt_of_pos kk (b:=(n2:Int)) (by omega);omega
    have hms:=pj hbw (i:=r) (by rw[<-hmm];omega)
    obtain⟨ko,k60⟩:=ri hbw;rw[<-hmm] at hms ko k60;obtain⟨n1,hn1⟩:∃n,m.sz.length=n:=⟨_,rfl⟩
    obtain⟨K1,K1c,K2,K2c,e,⟨z1,z2,z3⟩,z4,z5,z6,z7⟩:=id hmT;have e:=congrArg Array.toList e;simp at e;obtain⟨⟨rfl,rfl⟩,rfl,rfl⟩:=e;obtain⟨b0,o0,rfl,-⟩:=z7.at_ (show 0<m.pl.length by omega)
    have HMK:=Lib.hid (fun (W:World) (v:Value) (l:List PlcP) (b:Nat) (hb:Below T.heap.size T W) (ho:R4 W b v l)=>Ajj (m:=m) z1 z2 (z3.keep hb) ho)
    rw[hn1] at HMK hM m4;rw[hn2] at hM m5 z4 z7;have HL0:=Lib.hid hms.1;have HM0:=Lib.hid hms.2;have HKO:=Lib.hid ko;have HLN:=Lib.hid hn2;have hx:((n2:Int) == 0)=false:=by simpa using h0
    have T2:kk % (n2:Int)=(r:Int):=hr;have T1:Int.tmod kk (n2:Int)=(r:Int):=by rw[Int.tmod_eq_emod_of_nonneg hmo.1];exact hr
    have hz0:¬((n2:Int)=0):=by omega
    have h60:n2<=60:=by omega
    clear hms hmT hmm hok hn1 hn2 ko k60 h0 hr;go_upto_region 6 with fail;clear T1 T2 hz0 hx hmo m0 m1 m2 m3 m4 m5 p0 p1 p2 p3 p4 p5 p6
    have KF:∀W',Below T.heap.size T W'->W'.cell? ⟨GM,0,none⟩=some (.int .i64 m.len)/\W'.cell? ⟨GM,1,none⟩=some (.int .i64 m.wid)/\W'.cell? ⟨GM,2,none⟩=some (.int .i64 m.rx)/\W'.cell? ⟨GM,3,none⟩=some (.int .i64 m.ry)/\W'.cell? ⟨GM,4,none⟩=some (.slice M1 n1 d1)/\W'.cell? ⟨GM,5,none⟩=some (.slice (some ⟨b0,o0,none⟩) n2 d2):=fun W' hb'=>by
     obtain⟨b0,b1,b2,b3,b4,b5⟩:=mk6 (hM.keep hb');exact⟨b0,b1,b2,b3,b4,b5⟩
    have HKF:=Lib.hid KF;clear KF;have hTM:=hM.lt;go_cut [9,10] (fun v8 v9 wx=>∃g8 g9,v8=.pointer (some ⟨g8,0,none⟩)/\v9=.pointer (some ⟨g9,0,none⟩)/\g8≠g9/\T.heap.size<=g8/\T.heap.size<=g9/\Bb wx g8 38 #[.int .i64 m.len,.int .i64 m.wid,.int .i64 m.rx,.int .i64 m.ry,.slice M1 n1 d1,.slice (some ⟨b0,o0,none⟩) n2 d2]/\Bb wx g9 38 #[.int .i64 m.len,.int .i64 m.wid,.int .i64 m.rx,.int .i64 m.ry,.slice M1 n1 d1,.slice (some ⟨b0,o0,none⟩) n2 d2]/\Below T.heap.size T wx)
    case first =>
     go_region_held3 (fun W'=>W'.cell? ⟨GM,0,none⟩=some (.int .i64 m.len)/\W'.cell? ⟨GM,1,none⟩=some (.int .i64 m.wid)/\W'.cell? ⟨GM,2,none⟩=some (.int .i64 m.rx)/\W'.cell? ⟨GM,3,none⟩=some (.int .i64 m.ry)/\W'.cell? ⟨GM,4,none⟩=some (.slice M1 n1 d1)/\W'.cell? ⟨GM,5,none⟩=some (.slice (some ⟨b0,o0,none⟩) n2 d2))
      (first
       | with_reducible exact HKF.out _ (Aw (Below.refl _ _))
       | with_reducible exact HKF.out _ (Below.refl _ _)
       | with_reducible exact HKF.out _ (Aw (An (Below.refl _ _) _))
       | with_reducible exact HKF.out _ (An (Below.refl _ _) _)
       | with_reducible exact HKF.out _ (Aw (An (An (Below.refl _ _) _) _))
       | with_reducible exact HKF.out _ (An (An (Below.refl _ _) _) _))
      ((first|fail))
     all_goals go_wp2_with fail
     all_goals go_meet
     all_goals first
      | exact⟨_,_,rfl,rfl,by omega,by omega,by omega,dk0 _ _ _ _,dk1 _ _ _ _,Aw (An (An (Below.refl _ _) _) _)⟩
      | exact⟨_,_,rfl,rfl,by omega,by omega,by omega,dk1 _ _ _ _,dk0 _ _ _ _,Aw (An (An (Below.refl _ _) _) _)⟩
    case rest =>
     obtain⟨g8,g9,rfl,rfl,hne,hg8,hg9,h8,h9,hbc⟩:=hcut;obtain⟨V,hV⟩:∃V:World,V=wc:=⟨_,rfl⟩
     rw[<-hV] at h8 h9 hbc ⊢;clear hV HKF;have hMV:=hM.keep hbc;have hpV:=z7.keep hbc;obtain⟨i,hi⟩:∃i,r+1=i:=⟨_,rfl⟩
     have hI:(r:Int)+1=(i:Int):=by omega
     have hin:i<=n2:=by omega
     have W0:IntKind.i64.wrap (i:Int)=(i:Int):=by rw[IntKind.wrap_i64];omega
     have B0:(0:Int)<=(i:Int):=by omega
     have B1:(r:Int)<=(d2:Int):=by omega
     have B2:(i:Int)<=(n2:Int):=by omega
     have B3:(n2:Int)<=(d2:Int):=by omega
     have B4:(r:Int)<(n2:Int):=by omega
     have hGM:GM≠g8:=by omega
     have hGM9:GM≠g9:=by omega
     have h8V:=h8.lt;have h9V:=h9.lt;have KM:∀W',Below V.heap.size V W'->W'.cell? ⟨GM,5,none⟩=some (.slice (some ⟨b0,o0,none⟩) n2 d2):=fun W' hb'=>(mk6 (hMV.keep hb')).2.2.2.2.2
     have HKM:=Lib.hid KM;have hL1:([]:List PlcP).length+r<=1000000:=by simp;omega
     have hL2:(m.pl.take r).length+(n2-i)<=1000000:=by rw[List.length_take];omega
     have hpT:=PlS.take hpV (i:=r) (by omega)
     rw[hi] at HL0;obtain⟨LL,hLL⟩:∃L,m.pl.take r++m.pl.drop i=L:=⟨_,rfl⟩
     obtain⟨nL,hnL⟩:∃n,LL.length=n:=⟨_,rfl⟩
     have HLL:=Lib.hid hLL;have HLn:=Lib.hid hnL;clear KM hi hLL hnL;go_upto_region 7 with fail;go_cut [9] (fun v9 wx=>v9=.pointer (some ⟨g8,0,none⟩)/\∃v,Bb wx g8 38 #[.int .i64 m.len,.int .i64 m.wid,.int .i64 m.rx,.int .i64 m.ry,.slice M1 n1 d1,v]/\Bb wx g9 38 #[.int .i64 m.len,.int .i64 m.wid,.int .i64 m.rx,.int .i64 m.ry,.slice M1 n1 d1,.slice (some ⟨b0,o0,none⟩) n2 d2]/\R4 wx T.heap.size v (m.pl.take r++m.pl.drop i)/\Below T.heap.size T wx)
     case first =>
      by_cases hd:i=d2
      ·have HD:PlS V (some ⟨b0,o0,none⟩) (n2-d2) (m.pl.drop d2):=⟨by rw[List.length_drop,HLN.out],.inl (by omega)⟩
       have e2:n2=i:=by omega
       subst e2;subst hd;have hL2':(m.pl.take r).length+0<=1000000:=by omega
       rw[Nat.sub_self] at HD
       go_region_held3 (fun W'=>W'.cell? ⟨GM,5,none⟩=some (.slice (some ⟨b0,o0,none⟩) n2 n2))
        (first
         | with_reducible exact HS9.out _
         | with_reducible exact HKM.out _ bl2
         | with_reducible exact HKM.out _ bl1
         | with_reducible exact HKM.out _ (Aw (Below.refl _ _))
         | with_reducible exact HKM.out _ (Below.refl _ _)
         | with_reducible exact HKM.out _ (Aw (An (Below.refl _ _) _))
         | with_reducible exact HKM.out _ (An (Below.refl _ _) _))
        ((first
          | (refine V0 rfl _ _ rfl V.heap.size v1 (m.pl.take r) rfl ho1 ⟨b0,o0,none⟩ 0 0 (m.pl.drop n2) rfl (HD.keep bl1) hL2' bl1.size ?_;intro v2 w2 ho2 hg2 hat2;have bl2:=Below.grown bl1 hg2 bl1.size (fun k hk=>(OwG.lt ho1 k hk).1);rw[HLL.out] at ho2;obtain⟨A2',c2',hv2,-⟩:=kb ho2;rw[HLn.out] at hv2;subst hv2;have h8w:=h8.keep bl2;have h9w:=h9.keep bl2;obtain⟨y0,y1,y2,y3,y4,y5⟩:=mk6 h8w;have f5:=h8w.frozen 5;have HS9:=Lib.hid (fun u=>show (w2.setCell ⟨g8,5,none⟩ u).cell? ⟨GM,5,none⟩=some (.slice (some ⟨b0,o0,none⟩) n2 n2) from (((hMV.keep bl2).far (p:=⟨g8,5,none⟩) hGM u).cell 5).trans rfl))
          | (refine V0 rfl _ _ rfl V.heap.size _ [] rfl (OwG.keep (ml V (Nat.le_refl _)) (Aw (Below.refl _ _))) ⟨b0,o0,none⟩ r n2 (m.pl.take r) rfl (hpT.keep (Aw (An (Below.refl _ _) _))) hL1 (by simp) ?_;intro v1 w1 ho1 hg1 hat1;rw[List.nil_append] at ho1;have bl1:=Below.grown (Aw (An (Below.refl V.heap.size V) (.cells #[] 51))) hg1 (by simp) (fun k hk=>by have e:V.heap.size=k:=Option.some.inj hk;omega))))
       all_goals go_wp2_with fail
       all_goals go_meet
       all_goals exact⟨rfl,_,h8w.set_ 5 _,h9w.far hne.symm _,by rw[HLL.out];exact(OwG.keepAbove ho2 (fun k hk _=>Dq _ _ _ _ (by omega))).lower hbc.size,Below.setCell (hbc.trans (bl2.mono hbc.size)) hg8 _⟩
      ·have HD:=PlS.drop hpV hin
       have hd2:¬d2=i:=fun e=>hd e.symm
       clear hd
       go_region_held3 (fun W'=>W'.cell? ⟨GM,5,none⟩=some (.slice (some ⟨b0,o0,none⟩) n2 d2))
        (first
         | with_reducible exact HS9.out _
         | with_reducible exact HKM.out _ bl2
         | with_reducible exact HKM.out _ bl1
         | with_reducible exact HKM.out _ (Aw (Below.refl _ _))
         | with_reducible exact HKM.out _ (Below.refl _ _)
         | with_reducible exact HKM.out _ (Aw (An (Below.refl _ _) _))
         | with_reducible exact HKM.out _ (An (Below.refl _ _) _))
        ((first
          | (refine V0 rfl _ _ rfl V.heap.size v1 (m.pl.take r) rfl ho1 ⟨b0,o0+i*7,none⟩ (n2-i) (d2-i) (m.pl.drop i) rfl (HD.keep bl1) hL2 bl1.size ?_;intro v2 w2 ho2 hg2 hat2;have bl2:=Below.grown bl1 hg2 bl1.size (fun k hk=>(OwG.lt ho1 k hk).1);rw[HLL.out] at ho2;obtain⟨A2',c2',hv2,-⟩:=kb ho2;rw[HLn.out] at hv2;subst hv2;have h8w:=h8.keep bl2;have h9w:=h9.keep bl2;obtain⟨y0,y1,y2,y3,y4,y5⟩:=mk6 h8w;have f5:=h8w.frozen 5;have HS9:=Lib.hid (fun u=>show (w2.setCell ⟨g8,5,none⟩ u).cell? ⟨GM,5,none⟩=some (.slice (some ⟨b0,o0,none⟩) n2 d2) from (((hMV.keep bl2).far (p:=⟨g8,5,none⟩) hGM u).cell 5).trans rfl))
          | (refine V0 rfl _ _ rfl V.heap.size _ [] rfl (OwG.keep (ml V (Nat.le_refl _)) (Aw (Below.refl _ _))) ⟨b0,o0,none⟩ r d2 (m.pl.take r) rfl (hpT.keep (Aw (An (Below.refl _ _) _))) hL1 (by simp) ?_;intro v1 w1 ho1 hg1 hat1;rw[List.nil_append] at ho1;have bl1:=Below.grown (Aw (An (Below.refl V.heap.size V) (.cells #[] 51))) hg1 (by simp) (fun k hk=>by have e:V.heap.size=k:=Option.some.inj hk;omega))))
       all_goals go_wp2_with fail
       all_goals go_meet
       all_goals exact⟨rfl,_,h8w.set_ 5 _,h9w.far hne.symm _,by rw[HLL.out];exact(OwG.keepAbove ho2 (fun k hk _=>Dq _ _ _ _ (by omega))).lower hbc.size,Below.setCell (hbc.trans (bl2.mono hbc.size)) hg8 _⟩
     case rest =>
      obtain⟨rfl,vL,h8b,h9b,hoL,hbd⟩:=hcut;obtain⟨U,hU⟩:∃U:World,U=wc:=⟨_,rfl⟩
      rw[<-hU] at h8b h9b hoL hbd ⊢;clear hU HKM hpT hL1 hL2 hMV hpV h8 h9 hbc;have h8U:=h8b;have h9U:=h9b;have h9lt:=h9b.lt;have hMU:=hM.keep hbd;have hpU:=z7.keep hbd;obtain⟨b9,o9,e9,hcc9⟩:=hpU.at_ hrn;injection e9 with e9
      injection e9 with e91 e92
      subst e91 e92;obtain⟨pr,hpr⟩:∃p,plc m.pl r=p:=⟨_,rfl⟩
      have HPR:=Lib.hid hpr;have hc9:=hcc9 r hrn;rw[hpr] at hc9;obtain⟨ga,us,cp,fl,qu,x,y⟩:=pr;have KS:∀W',Below U.heap.size U W'->W'.cell? ⟨GM,5,none⟩=some (.slice (some ⟨b0,o0,none⟩) n2 d2)/\W'.cell? ⟨b0,o0+r*7,none⟩=some (.int .i64 ga)/\W'.cell? ⟨b0,o0+r*7+1,none⟩=some (.int .i64 us)/\W'.cell? ⟨b0,o0+r*7+2,none⟩=some (.int .i64 cp)/\W'.cell? ⟨b0,o0+r*7+3,none⟩=some (.bool fl)/\W'.cell? ⟨b0,o0+r*7+4,none⟩=some (.int .i64 qu)/\W'.cell? ⟨b0,o0+r*7+5,none⟩=some (.int .i64 x)/\W'.cell? ⟨b0,o0+r*7+6,none⟩=some (.int .i64 y):=fun W' hb'=>⟨(mk6 (hMU.keep hb')).2.2.2.2.2,hc9.keep hb'⟩
      have HKS:=Lib.hid KS;have hL3:([]:List PlcP).length+n2<=1000000:=by simp;omega
      have hlen:m.pl.length+1<=maxLen:=by rw[HLN.out];unfold maxLen;omega
      have hbyt:(m.pl.length+1)*56<=140737488355328:=by rw[HLN.out];omega
      obtain⟨i0,hi0,hq0,hq1,hq2⟩:=info_parts Abq;have hne9:some g9≠vL.ownBlock:=OwG.neB hoL h9b (by decide)
      have hb9:b0≠g9:=by
       obtain⟨b',o',e',hcc'⟩:=z7.at_ hrn;injection e' with e'
       injection e' with e1 e2
       subst e1;have:b0<T.heap.size:=Bj (hcc' r hrn).1;omega
      have KSF:∀{W:World},Below U.heap.size U W->∀u,(W.setCell ⟨g9,5,none⟩ u).cell? ⟨GM,5,none⟩=some (.slice (some ⟨b0,o0,none⟩) n2 d2)/\(W.setCell ⟨g9,5,none⟩ u).cell? ⟨b0,o0+r*7,none⟩=some (.int .i64 ga)/\(W.setCell ⟨g9,5,none⟩ u).cell? ⟨b0,o0+r*7+1,none⟩=some (.int .i64 us)/\(W.setCell ⟨g9,5,none⟩ u).cell? ⟨b0,o0+r*7+2,none⟩=some (.int .i64 cp)/\(W.setCell ⟨g9,5,none⟩ u).cell? ⟨b0,o0+r*7+3,none⟩=some (.bool fl)/\(W.setCell ⟨g9,5,none⟩ u).cell? ⟨b0,o0+r*7+4,none⟩=some (.int .i64 qu)/\(W.setCell ⟨g9,5,none⟩ u).cell? ⟨b0,o0+r*7+5,none⟩=some (.int .i64 x)/\(W.setCell ⟨g9,5,none⟩ u).cell? ⟨b0,o0+r*7+6,none⟩=some (.int .i64 y):=fun hb' u=>by
       obtain⟨u0,u1,u2,u3,u4,u5,u6⟩:=hc9.keep hb';exact⟨(((hMU.keep hb').far (p:=⟨g9,5,none⟩) hGM9 u).cell 5).trans rfl,(World.cell?_of_block (Dq _ _ _ _ hb9)).trans u0,(World.cell?_of_block (Dq _ _ _ _ hb9)).trans u1,(World.cell?_of_block (Dq _ _ _ _ hb9)).trans u2,(World.cell?_of_block (Dq _ _ _ _ hb9)).trans u3,(World.cell?_of_block (Dq _ _ _ _ hb9)).trans u4,(World.cell?_of_block (Dq _ _ _ _ hb9)).trans u5,(World.cell?_of_block (Dq _ _ _ _ hb9)).trans u6⟩
      clear KS hpr hcc9 h8b h9b;go_upto_region 8 with fail;go_cut [10] (fun v10 wx=>v10=.pointer (some ⟨g9,0,none⟩)/\∃v,Bb wx g9 38 #[.int .i64 m.len,.int .i64 m.wid,.int .i64 m.rx,.int .i64 m.ry,.slice M1 n1 d1,v]/\Bb wx g8 38 #[.int .i64 m.len,.int .i64 m.wid,.int .i64 m.rx,.int .i64 m.ry,.slice M1 n1 d1,vL]/\R4 wx T.heap.size v (m.pl++[⟨ga,us,cp,fl,qu,x,y⟩])/\R4 wx T.heap.size vL (m.pl.take r++m.pl.drop i)/\Below T.heap.size T wx)
      case first =>
       go_region_held3 (fun W'=>W'.cell? ⟨GM,5,none⟩=some (.slice (some ⟨b0,o0,none⟩) n2 d2)/\W'.cell? ⟨b0,o0+r*7,none⟩=some (.int .i64 ga)/\W'.cell? ⟨b0,o0+r*7+1,none⟩=some (.int .i64 us)/\W'.cell? ⟨b0,o0+r*7+2,none⟩=some (.int .i64 cp)/\W'.cell? ⟨b0,o0+r*7+3,none⟩=some (.bool fl)/\W'.cell? ⟨b0,o0+r*7+4,none⟩=some (.int .i64 qu)/\W'.cell? ⟨b0,o0+r*7+5,none⟩=some (.int .i64 x)/\W'.cell? ⟨b0,o0+r*7+6,none⟩=some (.int .i64 y))
        (first
         | with_reducible exact HS9.out _
         | with_reducible exact HKS.out _ bl2
         | with_reducible exact HKS.out _ bl1
         | with_reducible exact HKS.out _ (An bl1 _)
         | with_reducible exact HKS.out _ (Aw (Below.refl _ _))
         | with_reducible exact HKS.out _ (Below.refl _ _)
         | with_reducible exact HKS.out _ (Aw (An (Below.refl _ _) _))
         | with_reducible exact HKS.out _ (An (Below.refl _ _) _)
         | with_reducible exact HKS.out _ (Aw (An (An (Below.refl _ _) _) _))
         | with_reducible exact HKS.out _ (An (An (Below.refl _ _) _) _))
        ((first
          | (refine Il rfl _ _ 36 rfl ew U.heap.size 51 i0 (.agg #[.int .i64 0,.int .i64 0,.int .i64 0,.bool false,.int .i64 0,.int .i64 0,.int .i64 0]) 7 56 Tryz.underlying36 hi0 hq0 hq1 hq2 rfl (by omega) Rj Yq v1 m.pl rfl ho1 (U.heap.size+1) 1 ⟨ga,us,cp,fl,qu,x,y⟩ 51 rfl kE1 hlen hbyt bl1.size w1.heap.size rfl ?_;intro gg cap w2 ho2 hg2 hat2 hlt2;have bl2:=Below.grown bl1 hg2 bl1.size (fun k hk=>(OwG.lt ho1 k hk).1);have h9w:=h9U.keep bl2;have h8w:=h8U.keep bl2;obtain⟨y0,y1,y2,y3,y4,y5⟩:=mk6 h9w;have f5:=h9w.frozen 5;have HS9:=Lib.hid (fun u=>KSF bl2 u))
          | (refine Il rfl _ _ 36 rfl ew U.heap.size 51 i0 (.agg #[.int .i64 0,.int .i64 0,.int .i64 0,.bool false,.int .i64 0,.int .i64 0,.int .i64 0]) 7 56 Tryz.underlying36 hi0 hq0 hq1 hq2 rfl (by omega) Rj Yq v1 m.pl rfl ho1 U.heap.size 1 ⟨ga,us,cp,fl,qu,x,y⟩ 51 rfl kE0 hlen hbyt bl1.size w1.heap.size rfl ?_;intro gg cap w2 ho2 hg2 hat2 hlt2;have bl2:=Below.grown bl1 hg2 bl1.size (fun k hk=>(OwG.lt ho1 k hk).1);have h9w:=h9U.keep bl2;have h8w:=h8U.keep bl2;obtain⟨y0,y1,y2,y3,y4,y5⟩:=mk6 h9w;have f5:=h9w.frozen 5;have HS9:=Lib.hid (fun u=>KSF bl2 u))
          | (refine Il rfl _ _ 36 rfl ew U.heap.size 51 i0 (.agg #[.int .i64 0,.int .i64 0,.int .i64 0,.bool false,.int .i64 0,.int .i64 0,.int .i64 0]) 7 56 Tryz.underlying36 hi0 hq0 hq1 hq2 rfl (by omega) Rj Yq v1 m.pl rfl (OwG.alloc ho1 _) w1.heap.size 1 ⟨ga,us,cp,fl,qu,x,y⟩ 51 rfl (Bb.new _ _ _) hlen hbyt (An bl1 (.cells #[.int .i64 ga,.int .i64 us,.int .i64 cp,.bool fl,.int .i64 qu,.int .i64 x,.int .i64 y] 51)).size (w1.heap.size+1) (by simp) ?_;intro gg cap w2 ho2 hg2 hat2 hlt2;have bl2:=Below.grown (An bl1 (.cells #[.int .i64 ga,.int .i64 us,.int .i64 cp,.bool fl,.int .i64 qu,.int .i64 x,.int .i64 y] 51)) hg2 (An bl1 (.cells #[.int .i64 ga,.int .i64 us,.int .i64 cp,.bool fl,.int .i64 qu,.int .i64 x,.int .i64 y] 51)).size (fun k hk=>(OwG.lt ho1 k hk).1);have h9w:=h9U.keep bl2;have h8w:=h8U.keep bl2;obtain⟨y0,y1,y2,y3,y4,y5⟩:=mk6 h9w;have f5:=h9w.frozen 5;have HS9:=Lib.hid (fun u=>KSF bl2 u))
          | (refine V0 rfl _ _ rfl U.heap.size _ [] rfl (OwG.keep (OwG.alloc (ml U (Nat.le_refl _)) _) (Aw (Below.refl _ _))) ⟨b0,o0,none⟩ n2 d2 m.pl rfl (hpU.keep (Aw (An (An (Below.refl U.heap.size U) (.cells #[] 51)) (.cells #[.int .i64 ga,.int .i64 us,.int .i64 cp,.bool fl,.int .i64 qu,.int .i64 x,.int .i64 y] 51)))) hL3 (Aw (An (An (Below.refl U.heap.size U) (.cells #[] 51)) (.cells #[.int .i64 ga,.int .i64 us,.int .i64 cp,.bool fl,.int .i64 qu,.int .i64 x,.int .i64 y] 51))).size ?_;intro v1 w1 ho1 hg1 hat1;rw[List.nil_append] at ho1;have bl1:=Below.grown (Aw (An (An (Below.refl U.heap.size U) (.cells #[] 51)) (.cells #[.int .i64 ga,.int .i64 us,.int .i64 cp,.bool fl,.int .i64 qu,.int .i64 x,.int .i64 y] 51))) hg1 (Aw (An (An (Below.refl U.heap.size U) (.cells #[] 51)) (.cells #[.int .i64 ga,.int .i64 us,.int .i64 cp,.bool fl,.int .i64 qu,.int .i64 x,.int .i64 y] 51))).size (fun k hk=>by have e:U.heap.size=k:=Option.some.inj hk;first|omega|(simp at e;omega));have kE1:=Bb.grown (Bb.drew (Bb.new2 U (.cells #[] 51) 51 #[.int .i64 ga,.int .i64 us,.int .i64 cp,.bool fl,.int .i64 qu,.int .i64 x,.int .i64 y])) hg1 (by intro e;have e:U.heap.size+1=U.heap.size:=Option.some.inj e;omega))
          | (refine V0 rfl _ _ rfl U.heap.size _ [] rfl (OwG.keep (Ami (U.alloc (.cells #[.int .i64 ga,.int .i64 us,.int .i64 cp,.bool fl,.int .i64 qu,.int .i64 x,.int .i64 y] 51)) (g:=U.heap.size+1) (by simp) (by simp)) (Aw (Below.refl _ _))) ⟨b0,o0,none⟩ n2 d2 m.pl rfl (hpU.keep (Aw (An (An (Below.refl U.heap.size U) (.cells #[.int .i64 ga,.int .i64 us,.int .i64 cp,.bool fl,.int .i64 qu,.int .i64 x,.int .i64 y] 51)) (.cells #[] 51)))) hL3 (Aw (An (An (Below.refl U.heap.size U) (.cells #[.int .i64 ga,.int .i64 us,.int .i64 cp,.bool fl,.int .i64 qu,.int .i64 x,.int .i64 y] 51)) (.cells #[] 51))).size ?_;intro v1 w1 ho1 hg1 hat1;rw[List.nil_append] at ho1;have bl1:=Below.grown (Aw (An (An (Below.refl U.heap.size U) (.cells #[.int .i64 ga,.int .i64 us,.int .i64 cp,.bool fl,.int .i64 qu,.int .i64 x,.int .i64 y] 51)) (.cells #[] 51))) hg1 (Aw (An (An (Below.refl U.heap.size U) (.cells #[.int .i64 ga,.int .i64 us,.int .i64 cp,.bool fl,.int .i64 qu,.int .i64 x,.int .i64 y] 51)) (.cells #[] 51))).size (fun k hk=>by have e:U.heap.size+1=k:=Option.some.inj hk;omega);have kE0:=Bb.grown (Bb.drew ((Bb.new U 51 #[.int .i64 ga,.int .i64 us,.int .i64 cp,.bool fl,.int .i64 qu,.int .i64 x,.int .i64 y]).alloc (.cells #[] 51))) hg1 (by intro e;have e:U.heap.size=U.heap.size+1:=Option.some.inj e;omega))
          | (refine V0 rfl _ _ rfl U.heap.size _ [] rfl (OwG.keep (ml U (Nat.le_refl _)) (Aw (Below.refl _ _))) ⟨b0,o0,none⟩ n2 d2 m.pl rfl (hpU.keep (Aw (An (Below.refl U.heap.size U) (.cells #[] 51)))) hL3 (Aw (An (Below.refl U.heap.size U) (.cells #[] 51))).size ?_;intro v1 w1 ho1 hg1 hat1;rw[List.nil_append] at ho1;have bl1:=Below.grown (Aw (An (Below.refl U.heap.size U) (.cells #[] 51))) hg1 (Aw (An (Below.refl U.heap.size U) (.cells #[] 51))).size (fun k hk=>by have e:U.heap.size=k:=Option.some.inj hk;first|omega|(simp at e;omega)))))
       all_goals go_wp2_with fail
       all_goals go_meet
       all_goals exact⟨rfl,_,h9w.set_ 5 _,h8w.far hne _,(OwG.keepAbove ho2 (fun k hk _=>Dq _ _ _ _ (by omega))).lower hbd.size,OwG.setFar (OwG.keep hoL bl2) hne9,Below.setCell (hbd.trans (bl2.mono hbd.size)) hg9 _⟩
      case rest =>
       obtain⟨rfl,vM,h9c,h8c,hoM,hoL2,hbe⟩:=hcut;have hmL:=HMK.out _ _ _ _ hbe hoL2;have hmM:=HMK.out _ _ _ _ hbe hoM;obtain⟨A7,c7,hv7,-⟩:=kb hoL2;obtain⟨l7,hl7⟩:∃n,(m.pl.take r++m.pl.drop i).length=n:=⟨_,rfl⟩
       rw[hl7] at hv7;subst hv7;obtain⟨A8,c8,hv8,-⟩:=kb hoM;obtain⟨l8,hl8⟩:∃n,(m.pl++[(⟨ga,us,cp,fl,qu,x,y⟩:PlcP)]).length=n:=⟨_,rfl⟩
       rw[hl8] at hv8;subst hv8
       have okL:=Lib.hid (show ∀p∈m.pl.take r++m.pl.drop i,okC (kt p) from fun p hp=>HKO.out p (by
        rcases List.mem_append.1 hp with h|h
        ·exact List.mem_of_mem_take h
        ·exact List.mem_of_mem_drop h))
       have okM:=Lib.hid (show ∀p∈m.pl++[(⟨ga,us,cp,fl,qu,x,y⟩:PlcP)],okC (kt p) from fun p hp=>HKO.out p (by
        rcases List.mem_append.1 hp with h|h
        ·exact h
        ·rw[List.mem_singleton.1 h,<-HPR.out,Dd (by rw[HLN.out];exact hrn)]
         exact List.getElem_mem _))
       have lnL:=Lib.hid (show (m.pl.take r++m.pl.drop i).length<=1000 by rw[List.length_append,List.length_take,List.length_drop,HLN.out];omega)
       have lnM:=Lib.hid (show (m.pl++[(⟨ga,us,cp,fl,qu,x,y⟩:PlcP)]).length<=1000 by rw[List.length_append,HLN.out];simp;omega)
       have HM1:=Lib.hid (show (Fs s { m with pl:=m.pl++[(⟨ga,us,cp,fl,qu,x,y⟩:PlcP)] }).1=7 by rw[<-HPR.out];exact HM0.out)
       have hPW:=hPT.keep hbe;have hvW:=hvT.keep hbe;obtain⟨a0,a1,a2,a3,a4,a5⟩:=mk6 h8c;obtain⟨p0,p1,p2,p3,p4,p5,p6⟩:=st7 hPW;clear hl7 hl8 hoM hoL2 hoL KSF HKS hlen hbyt hL3 hpU hMU h8U h9U hc9
       go_wp2_with (first
        | (go_at_call 9;refine(HA.out _).mono ?_;rintro e w9 ⟨rfl,hb9⟩)
        | (go_at_call 19;have hz9:=hb7;refine(Jb _ s _ _ _ hsm.1 (hvW.keep hb7) (hmM.keep hb7) okM.out lnM.out).mono ?_;rintro e w8 ⟨rfl,hb8⟩;rw[HM1.out])
        | (go_at_call 19;refine(Jb _ s _ _ _ hsm.1 hvW hmL okL.out lnL.out).mono ?_;rintro e w7 ⟨rfl,hb7⟩;rw[HL0.out];obtain⟨d0,d1',d2',d3,d4,d5⟩:=mk6 (h9c.keep hb7);obtain⟨q0,q1,q2,q3,q4,q5,q6⟩:=st7 (hPW.keep hb7)))
       go_ret;exact⟨rfl,Ao hbWT (Ao (Ao (Ao hbe hb7) hb8) hb9)⟩
end Go.Proofs.YtpbchbcdgikonaaGreat
