/- Lean texts of the claim. -/
import Derived.Test.YtpbchbcdgikonaaGreatQ45
namespace Go.Proofs.YtpbchbcdgikonaaGreat
set_option linter.unusedVariables false
set_option linter.unusedSimpArgs false
set_option maxRecDepth 100000
set_option maxHeartbeats 4000000
open Go.RowKit
def Wb (U:List UseP):Nat->Int
 | 0=>0
 | k+1=>Wb U k+min (max (use U k).ct 0) 9
theorem qb (U:List UseP):∀k,0<=Wb U k/\Wb U k<=9*k
 | 0=>by simp[Wb]
 | k+1=>by
   have:=qb U k;rw[Wb];omega
def Afn (s:StyleP) (g:Int):Prop:=SmS s/\0<=g/\g<=7/\Wb s.us s.us.length*g<=6
def Aif (s:StyleP) (g:Int) (w:World) (e:Ending) (w':World):Prop:=∃b,e=.returned (.bool b)/\(b=true->Afn s g)/\Below w.heap.size w w'
theorem Aif.no {s:StyleP} {g:Int} {w w':World} (hb:Below w.heap.size w w'):Aif s g w (.returned (.bool false)) w':=⟨false,rfl,fun h=>(by cases h),hb⟩
theorem Sq (vs:Array Value) (s:StyleP) (g:Int) (w:World) (hv:StV w vs s) :
 Calls Tryz.prog 21 #[.agg vs,.int .i64 g] w (Aif s g w):=by
 obtain⟨A1,c1,A2,c2,A3,c3,A4,c4,A5,c5,A6,c6,rfl,⟨v1,v2,v3⟩,⟨v4,v5,v6⟩,⟨v7,v8,v9⟩,⟨v10,v11,v12⟩,⟨v13,v14,v15⟩,v16,v17⟩:=hv;go_enter Tryz.func21,Tryz.ntmps21;go_upto_region 1 with fail;refine Ar (fun X=>Below w.heap.size w X/\Bb X w.heap.size 29 #[.string s.nm,.slice A1 s.sz.length c1,.slice A2 s.mu.length c2,.slice A3 s.pc.length c3,.slice A4 s.us.length c4,.slice A5 s.se.length c5,.slice A6 s.no c6]) ⟨An (Below.refl _ _) _,Bb.new _ _ _⟩ ?_
 rintro X ⟨hbX,hP⟩;have hpcX:=v9.keep hbX;have husX:=v12.keep hbX;have HOK:=Lib.hid (fun (a1:s.pc.length<=4) (a2:s.us.length<=4) (a3:s.sz.length<=4) (a4:s.mu.length<=4) (a5:s.se.length<=6) (a6:s.no<=8) (a7:0<=g) (a8:g<=7) (a9:Wb s.us s.us.length*g<=6)=>show Afn s g from ⟨⟨a3,a4,a1,a2,a5,a6⟩,a7,a8,a9⟩)
 obtain⟨p0,p1,p2,p3,p4,p5,p6⟩:=st7 hP;obtain⟨n1,hn1⟩:∃n,s.sz.length=n:=⟨_,rfl⟩
 obtain⟨n2,hn2⟩:∃n,s.mu.length=n:=⟨_,rfl⟩
 obtain⟨n3,hn3⟩:∃n,s.pc.length=n:=⟨_,rfl⟩
 obtain⟨n4,hn4⟩:∃n,s.us.length=n:=⟨_,rfl⟩
 obtain⟨n5,hn5⟩:∃n,s.se.length=n:=⟨_,rfl⟩
 obtain⟨n6,hn6⟩:∃n,s.no=n:=⟨_,rfl⟩
 rw[hn1] at p1 HOK hP v1;rw[hn2] at p2 HOK hP v4;rw[hn3] at p3 HOK hP v7 hpcX;rw[hn4] at p4 HOK hP v10 husX;rw[hn5] at p5 HOK hP v13;rw[hn6] at p6 HOK hP v16;clear hn1 hn2 hn3 hn4 hn5 hn6 v3 v6 v9 v12 v15;by_cases h1:(4:Int)<(n3:Int)
 ·go_wp2_with fail
  go_ret;exact Aif.no hbX
 by_cases h2:(4:Int)<(n4:Int)
 ·go_wp2_with fail
  go_ret;exact Aif.no hbX
 by_cases h3:(4:Int)<(n1:Int)
 ·go_wp2_with fail
  go_ret;exact Aif.no hbX
 by_cases h4:(4:Int)<(n2:Int)
 ·go_wp2_with fail
  go_ret;exact Aif.no hbX
 by_cases h5:(6:Int)<(n5:Int)
 ·go_wp2_with fail
  go_ret;exact Aif.no hbX
 by_cases h6:(8:Int)<(n6:Int)
 ·go_wp2_with fail
  go_ret;exact Aif.no hbX
 by_cases h7:g<0
 ·go_wp2_with fail
  go_ret;exact Aif.no hbX
 by_cases h8:7<g
 ·go_wp2_with fail
  go_ret;exact Aif.no hbX
 have HOK2:=Lib.hid (HOK.out (by omega) (by omega) (by omega) (by omega) (by omega) (by omega) (by omega) (by omega))
 have q3:n3<=4:=by omega
 have q4:n4<=4:=by omega
 have g0:0<=g:=by omega
 have g7:g<=7:=by omega
 go_upto_region 4 with fail;clear HOK h1 h2 h3 h4 h5 h6 h7 h8 p0 p1 p2 p5 p6 v1 v2 v4 v5 v13 v14 v16 v17;go_loopw [5] (fun i wx=>∃k:Nat,k<=n3/\i=.int .i64 k/\wx=X) (fun i _=>n3-(intOf i).toNat)
 case atStart=>exact⟨0,Nat.zero_le _,rfl,rfl⟩
 case round =>
  obtain⟨k,hk,rfl,rfl⟩:=hrel;by_cases hlt:k<n3
  ·obtain⟨bp,op,rfl,vsp,⟨B1,d1,B2,d2,B3,d3,B4,d4,rfl,⟨e1,e2,e3⟩,⟨e4,e5,-⟩,-⟩,hc⟩:=hpcX.at_ hlt
   have y1:wr.cell? ⟨bp,op+k*7+1,none⟩=some (.slice B1 (pce s.pc k).ed.length d1):=hc 1 _ rfl;have y3:wr.cell? ⟨bp,op+k*7+3,none⟩=some (.slice B2 (pce s.pc k).nt.length d2):=hc 3 _ rfl;obtain⟨ne,hne⟩:∃n,(pce s.pc k).ed.length=n:=⟨_,rfl⟩
   obtain⟨nn,hnn⟩:∃n,(pce s.pc k).nt.length=n:=⟨_,rfl⟩
   obtain⟨ED,hED⟩:∃n,(pce s.pc k).ed=n:=⟨_,rfl⟩
   rw[hne] at y1 e1 e3;rw[hnn] at y3 e4;rw[hED] at e3;have B1':(k:Int)<(n3:Int):=by omega
   clear hc hne hnn hED;go_upto_region 8 with fail;go_loopw [6,7] (fun v i wx=>∃(j:Nat) (z:Int),j<=ne/\j<=17/\i=.int .i64 j/\v=.int .i64 z/\0<=z/\z<=20*j/\wx=wr) (fun _ i _=>ne-(intOf i).toNat)
   case atStart=>exact⟨0,0,Nat.zero_le _,by omega,rfl,rfl,by omega,by omega,rfl⟩
   case round =>
    obtain⟨j,z,hj,hj17,rfl,rfl,z0,z1,rfl⟩:=hrel;by_cases hj1:j<ne
    ·by_cases hj2:j<17
     ·obtain⟨be,oe,rfl,hE⟩:=e3.at_ hj1
      obtain⟨-,Bl,dl,x1,x2,x3,-⟩:=hE j hj1;obtain⟨ln,hln⟩:∃n,(edg ED j).ln.length=n:=⟨_,rfl⟩
      rw[hln] at x1 x2;have B2':(j:Int)<(ne:Int):=by omega
      have B3':(j:Int)<17:=by omega
      have hmin:0<=min (ln:Int) 20/\min (ln:Int) 20<=20:=by omega
      clear hln hE;go_wp2_with fail;exact⟨⟨j+1,z+min (ln:Int) 20,by omega,by omega,by go_num,rfl,by omega,by omega,trivial⟩,by simp[intOf];omega⟩
     ·have B2':(j:Int)<(ne:Int):=by omega
      have B3':¬(j:Int)<17:=by omega
      by_cases r1:(24:Int)<z
      ·go_wp2_with fail
       go_ret;exact Aif.no hbX
      have r2:(16:Int)<(ne:Int):=by omega
      go_wp2_with fail;go_ret;exact Aif.no hbX
    ·have B2':¬(j:Int)<(ne:Int):=by omega
     by_cases r1:(24:Int)<z
     ·go_wp2_with fail
      go_ret;exact Aif.no hbX
     by_cases r2:(16:Int)<(ne:Int)
     ·go_wp2_with fail
      go_ret;exact Aif.no hbX
     by_cases r3:(16:Int)<(nn:Int)
     ·go_wp2_with fail
      go_ret;exact Aif.no hbX
     go_wp2_with fail;exact⟨⟨k+1,by omega,by go_num,trivial⟩,by simp[intOf];omega⟩
  ·obtain rfl:n3=k:=by omega
   go_upto_region 15 with fail;go_loopw [8,9] (fun v i wx=>∃k:Nat,k<=n4/\i=.int .i64 k/\v=.int .i64 (Wb s.us k)/\wx=wr) (fun _ i _=>n4-(intOf i).toNat)
   case atStart=>exact⟨0,Nat.zero_le _,rfl,rfl,rfl⟩
   case round =>
    obtain⟨k,hk,rfl,rfl,rfl⟩:=hrel;have hbd:=qb s.us k;by_cases hlt:k<n4
    ·obtain⟨bu,ou,rfl,-,y1,-⟩:=husX.at_ hlt
     have hst:=Lib.hid (show Wb s.us (k+1)=Wb s.us k+min (max (use s.us k).ct 0) 9 from rfl)
     obtain⟨cv,hcv⟩:∃c,Wb s.us k=c:=⟨_,rfl⟩
     obtain⟨ct,hct⟩:∃c,(use s.us k).ct=c:=⟨_,rfl⟩
     rw[hcv] at hst hbd ⊢;rw[hct] at hst y1;have B1':(k:Int)<(n4:Int):=by omega
     clear hcv hct;go_wp2_with fail;exact⟨⟨k+1,by omega,by go_num,by rw[hst.out],trivial⟩,by simp[intOf];omega⟩
    ·obtain rfl:n4=k:=by omega
     have hmul:=Lib.hid (HOK2.out);obtain⟨cv,hcv⟩:∃c,Wb s.us n4=c:=⟨_,rfl⟩
     rw[hcv] at HOK2 hbd ⊢;have hmu:0<=cv*g/\cv*g<=36*7:=⟨Int.mul_nonneg (by omega) g0,Int.mul_le_mul (by omega) g7 g0 (by omega)⟩
     have W1:IntKind.i64.wrap (cv*g)=cv*g:=by rw[IntKind.wrap_i64];omega
     clear hcv hmul;go_wp2_with fail;go_ret;exact⟨_,rfl,fun h=>HOK2.out (by simpa using h),hbX⟩
theorem T6 {U:List UseP} {n:Nat} (h:∀i,i<n->(use U i).ct<=4):∀k,k<=n->((Fb U k).length:Int)=Wb U k
 | 0,_=>by simp[Fb,Wb]
 | k+1,hk=>by
   have:=T6 h k (by omega)
   have:=h k (by omega)
   rw[Fb,List.length_append,List.length_map,List.length_range,Wb];omega
theorem Ajb {s:StyleP} {Z:List Int} (h:Afn s Z.length) (h0:(Bd s Z).1=0):(Bd s Z).2.1.length<20:=by
 obtain⟨e,hs,-,-,-,-,-⟩:=Fi h0;obtain⟨-,k1,-,k2⟩:=Kf hs;have h1:=T6 (U:=s.us) (n:=s.us.length) (fun i hi=>(k2 i hi).2.2.2) s.us.length (Nat.le_refl _)
 have h2:=h.2.2.2;rw[<-h1] at h2;have h3:=Hm s Z (Em s) Z.length;have h4:(Em s).length=(Fb s.us s.us.length).length:=by unfold Em;rw[if_neg (by rw[hs];simp)]
 rw[e,h3,h4]
 have h5:(Fb s.us s.us.length).length*Z.length<=6:=by
  have:(((Fb s.us s.us.length).length*Z.length:Nat):Int)<=6:=by rw[Int.natCast_mul];exact h2
  omega
 rw[Nat.mul_comm] at h5;omega
def Aj9 (w:World) (s:StyleP) (b:Bed4) (Z:List Int) (e:Ending) (w':World):Prop:=∃ms ok m,e=.returned (.tuple #[.agg ms,.bool ok])/\(∀W':World,(∀k,w.heap.size<=k->k<w'.heap.size->W'.heap[k]? = w'.heap[k]?)->MkV W' ms m)/\Below w.heap.size w w'/\(ok=true->Afn s Z.length/\(Bz s b Z).1=0/\m=(Bz s b Z).2)
theorem sc (X:World) (o:Obj):(X.alloc o).heap.size=X.heap.size+1:=by simp
theorem rh (vs:Array Value) (s:StyleP) (b:Bed4) (A:Option Addr) (n c:Nat) (Z:List Int) (w:World) (hn:n<=c) (hcc:c<=9223372036854775807) (hnil:A=none->c=0) (hZ:InS w A n Z) (hv:StV w vs s) :
 Calls Tryz.prog 8 #[.agg vs,Hz b,.slice A n c] w (Aj9 w s b Z):=by
 obtain⟨A1,c1,A2,c2,A3,c3,A4,c4,A5,c5,A6,c6,rfl,-⟩:=id hv;have hzl:=hZ.1;obtain⟨len,wid,rx,ry⟩:=b;unfold Hz;dsimp only;go_enter Tryz.func8,Tryz.ntmps8;go_upto_region 1 with fail;refine Ar (fun X=>Below w.heap.size w X/\Bb X w.heap.size 29 #[.string s.nm,.slice A1 s.sz.length c1,.slice A2 s.mu.length c2,.slice A3 s.pc.length c3,.slice A4 s.us.length c4,.slice A5 s.se.length c5,.slice A6 s.no c6]/\Bb X (w.heap.size+1) 33 #[.int .i64 len,.int .i64 wid,.int .i64 rx,.int .i64 ry]/\Bb X (w.heap.size+1+1) 38 #[.int .i64 0,.int .i64 0,.int .i64 0,.int .i64 0,.slice none 0 0,.slice none 0 0]) ⟨An (An (An (Below.refl _ _) _) _) _,((Bb.new _ _ _).alloc _).alloc _,(Bb.new2 _ _ _ _).alloc _,by rw[<-sc w (.cells #[.string s.nm,.slice A1 s.sz.length c1,.slice A2 s.mu.length c2,.slice A3 s.pc.length c3,.slice A4 s.us.length c4,.slice A5 s.se.length c5,.slice A6 s.no c6] 29)];exact Bb.new2 _ _ _ _⟩ ?_
 rintro X ⟨hbX,hP,hK,hR⟩;have hvX:=hv.keep hbX;obtain⟨p0,p1,p2,p3,p4,p5,p6⟩:=st7 hP;go_cut [14] (fun v wx=>∃ok:Bool,v=.bool (!ok)/\(ok=true->Afn s Z.length)/\Below X.heap.size X wx)
 case first =>
  go_wp2_with (go_at_call 21;refine(Sq _ s n _ hvX).mono ?_;rintro e w1 ⟨ok,rfl,hok,hb1⟩)
  go_meet;exact⟨ok,rfl,fun h=>by rw[hzl];exact hok h,hb1⟩
 case rest =>
  obtain⟨ok,rfl,hok,hbc⟩:=hcut;have hPc:=hP.keep hbc;have hKc:=hK.keep hbc;have hRc:=hR.keep hbc;have hbW:=Ao hbX hbc;have hvc:=hv.keep hbW;have hZc:=hZ.keep hbW;obtain⟨q0,q1,q2,q3,q4,q5,q6⟩:=st7 hPc;obtain⟨b0,b1,b2,b3,-⟩:=hKc.cells4;clear hP hK hR hvX p0 p1 p2 p3 p4 p5 p6;cases ok with
  | false =>
    have g0:=hRc.frozen 0;have g1:=hRc.frozen 1;have g2:=hRc.frozen 2;have g3:=hRc.frozen 3;have g4:=hRc.frozen 4;have g5:=hRc.frozen 5;obtain⟨r0,r1,r2,r3,r4,r5⟩:=mk6 hRc;go_wp2_with fail;obtain⟨s0,s1,s2,s3,s4,s5⟩:=mk6 ((((((hRc.set_ 0 (.int .i64 0)).set_ 1 (.int .i64 0)).set_ 2 (.int .i64 0)).set_ 3 (.int .i64 0)).set_ 4 (.slice none 0 0)).set_ 5 (.slice none 0 0));refine bodyPost_ret (v:=.tuple #[.agg tu,.bool false]) (by simp[results,Tryz.results8,go_sem,s0,s1,s2,s3,s4,s5,tu]) rfl ?_
    exact⟨_,_,Na,rfl,fun W' _=>fe W',Afe hbW (by omega) _ _ _ _ _ _,fun h=>(by cases h)⟩
  | true =>
    have hsm:=hok rfl;have HBD:=Lib.hid (K7 _ s ⟨len,wid,rx,ry⟩ A n c Z wc hn hcc hnil hZc hsm.1 hvc (Ajb hsm));unfold Hz at HBD;dsimp only at HBD;obtain⟨⟨er,mk⟩,hbw⟩:∃r,Bz s ⟨len,wid,rx,ry⟩ Z=r:=⟨_,rfl⟩
    rw[hbw] at HBD;have HBW:=Lib.hid hbw;clear hbw
    go_upto_region 4 with (go_at_call 22;refine HBD.out.mono ?_;rintro e w1 ⟨vsm,rfl,hmk,hb1⟩;dsimp only at hmk ⊢;obtain⟨M1,d1,M2,d2,rfl,-⟩:=id (hmk w1 (fun _ _ _=>rfl)))
    refine Ar (fun Y=>Below w1.heap.size w1 Y/\Bb Y w1.heap.size 38 #[.int .i64 mk.len,.int .i64 mk.wid,.int .i64 mk.rx,.int .i64 mk.ry,.slice M1 mk.sz.length d1,.slice M2 mk.pl.length d2]) ⟨An (Below.refl _ _) _,Bb.new _ _ _⟩ ?_
    rintro Y ⟨hbY,hY⟩;have hRY:=(hRc.keep hb1).keep hbY;have hltc:=Dk hRc;have hbWY:=Ao (Ao hbW hb1) hbY;have g0:=hRY.frozen 0;have g1:=hRY.frozen 1;have g2:=hRY.frozen 2;have g3:=hRY.frozen 3;have g4:=hRY.frozen 4;have g5:=hRY.frozen 5;obtain⟨r0,r1,r2,r3,r4,r5⟩:=mk6 hRY;obtain⟨y0,y1,y2,y3,y4,y5⟩:=mk6 hY;clear hPc hKc hRc q0 q1 q2 q3 q4 q5 q6 b0 b1 b2 b3;go_wp2_with fail;obtain⟨s0,s1,s2,s3,s4,s5⟩:=mk6 ((((((hRY.set_ 0 (.int .i64 mk.len)).set_ 1 (.int .i64 mk.wid)).set_ 2 (.int .i64 mk.rx)).set_ 3 (.int .i64 mk.ry)).set_ 4 (.slice M1 mk.sz.length d1)).set_ 5 (.slice M2 mk.pl.length d2));refine bodyPost_ret (v:=.tuple #[.agg #[.int .i64 mk.len,.int .i64 mk.wid,.int .i64 mk.rx,.int .i64 mk.ry,.slice M1 mk.sz.length d1,.slice M2 mk.pl.length d2],.bool (er == 0)]) (by simp[results,Tryz.results8,go_sem,s0,s1,s2,s3,s4,s5]) rfl ?_
    refine⟨_,_,mk,rfl,fun W' hW=>hmk W' (fun k hk hk2=>(hW k (Nat.le_trans hbW.size hk) (by simp[World.setCell];exact Nat.lt_of_lt_of_le hk2 hbY.size)).trans ?_),Afe hbWY (by omega) _ _ _ _ _ _,fun h=>⟨hsm,?_,?_⟩⟩
    ·have hkB:k≠w.heap.size+1+1:=by omega
     exact(Dq _ _ _ _ hkB).trans ((Dq _ _ _ _ hkB).trans ((Dq _ _ _ _ hkB).trans ((Dq _ _ _ _ hkB).trans ((Dq _ _ _ _ hkB).trans ((Dq _ _ _ _ hkB).trans (hbY.block k hk2))))))
    ·rw[HBW.out];simpa using h
    ·rw[HBW.out]
def Afj (f:Nat->Bool):Nat->Int
 | 0=>0
 | k+1=>if f k then Afj f k+1 else Afj f k
theorem Yt {f:Nat->Bool} {t:Nat} (ht:f t=true):∀{n:Nat},(∀k,k<n->f k=true->k=t)->Afj f n=if t<n then 1 else 0
 | 0,_=>by simp[Afj]
 | n+1,h=>by
   have ih:=Yt ht (n:=n) fun k hk=>h k (by omega)
   rw[Afj];by_cases g:f n=true
   ·obtain rfl:=h n (by omega) g
    rw[if_pos g,ih,if_neg (by omega),if_pos (by omega)];rfl
   ·rw[if_neg g,ih]
    have:n≠t:=fun e=>g (e ▸ ht)
    by_cases q:t<n
    ·rw[if_pos q,if_pos (by omega)]
    ·rw[if_neg q,if_neg (by omega)]
def eqC (j:Int) (c p:PlcP):Bool:=decide (p.ga=j)&&decide (p.us=c.us)&&decide (p.cp=c.cp)&&(p.fl == c.fl)
theorem Rc (C:List PlcP):∀n j i,j<n->i<C.length->plc (J2 C n) (j*C.length+i)=Ju (plc C i) j
 | 0,j,_,hj,_=>by omega
 | n+1,j,i,hj,hi=>by
   have hl:=Hi C n;rw[J2];unfold plc;rcases Nat.lt_or_ge j n with g|g
   ·have:=Rc C n j i g hi
    unfold plc at this;have:(j+1)*C.length<=n*C.length:=Nat.mul_le_mul_right _ g;rw[Nat.add_mul] at this;rw[List.getD,List.getElem?_append_left (by omega)]
    assumption
   ·obtain rfl:j=n:=by omega
    rw[List.getD,List.getElem?_append_right (by omega),hl,show j*C.length+i-j*C.length=i by omega,List.getElem?_map,List.getD,List.getElem?_eq_getElem hi]
    rfl
theorem Zg (s:StyleP) (Z:List Int) (C:List PlcP):∀n j i,j<n->i<C.length->shp (O5 s Z C n) (j*C.length+i)=(F8 s (gi Z j) (plc C i)).1
 | 0,j,_,hj,_=>by omega
 | n+1,j,i,hj,hi=>by
   have hl:=Hm s Z C n;rw[O5];unfold shp;rcases Nat.lt_or_ge j n with g|g
   ·have:=Zg s Z C n j i g hi
    unfold shp at this;have:(j+1)*C.length<=n*C.length:=Nat.mul_le_mul_right _ g;rw[Nat.add_mul] at this;rw[List.getD,List.getElem?_append_left (by omega)]
    assumption
   ·obtain rfl:j=n:=by omega
    rw[List.getD,List.getElem?_append_right (by omega),hl,show j*C.length+i-j*C.length=i by omega,List.getElem?_map,List.getElem?_eq_getElem hi,Dd hi]
    rfl
theorem fo (fl:Bool) (qu:Int) (l:List (Int×Int)):Fv false qu (if fl then Fv true 0 l else l)=Fv fl qu l:=by
 cases fl with
 | false=>rfl
 | true =>
   unfold Fv;rw[if_neg (by simp),if_pos rfl,if_pos rfl,if_pos rfl,List.map_reverse,List.map_map]
   rfl
def Ako (s:StyleP) (Z:List Int) (wid:Int) (p:PlcP) (r:List (Int×Int)):Prop :=
 (0<=p.ga/\p.ga<Z.length)/\(0<=p.us/\p.us<s.us.length)/\(0<=(use s.us p.us.toNat).pc/\(use s.us p.us.toNat).pc<s.pc.length)/\(Lb s (gi Z p.ga.toNat) p.us).2=0 /\
 r=Th (Fv p.fl p.qu (Lb s (gi Z p.ga.toNat) p.us).1) (p.x,p.y)/\Zf (Cl s p.us).gr p.fl p.fl p.qu=true/\Bf r r.length=0/\0<r.length/\∀q∈r,0<=q.1/\0<=q.2/\q.2<=wid
def Ad9 (L:List (List (Int×Int))):Nat->Int
 | 0=>0
 | k+1=>max (Ad9 L k) (O3 (lt_ L k))
theorem oh {L:List (List (Int×Int))}:∀{n i:Nat},i<n->O3 (lt_ L i)<=Ad9 L n
 | n+1,i,h=>by
   rw[Ad9];rcases Nat.lt_or_ge i n with g|g
   ·have:=oh (L:=L) g;omega
   ·obtain rfl:i=n:=by omega
    omega
theorem nw {L:List (List (Int×Int))} {z:Int} (h0:0<=z):∀{n:Nat},(∀i,i<n->O3 (lt_ L i)<=z)->Ad9 L n<=z
 | 0,_=>h0
 | n+1,h=>by
   rw[Ad9];have:=nw h0 (n:=n) fun i hi=>h i (by omega)
   have:=h n (by omega)
   omega
structure ExactP (s:StyleP) (b:Bed4) (Z:List Int) (m:MkP) (L:List (List (Int×Int))):Prop where
 pols:Ia s m=(0,L)
 len:L.length=m.pl.length
 sz:m.sz=Z
 wid:m.wid=b.wid
 le:m.len<=max b.len 0
 sm:0<=m.len/\m.len<=1048576/\m.wid<=1048576\/m.pl.length=0
 cnt0:m.pl.length=(Em s).length*Z.length
 cnt:∀j,j<Z.length->∀i,i<(Em s).length->Afj (fun k=>eqC j (plc (Em s) i) (plc m.pl k)) m.pl.length=1
 ok:∀k,k<m.pl.length->Ako s Z m.wid (plc m.pl k) (lt_ L k)
 apart:∀i k,i<k->k<m.pl.length->Ej (lt_ L i) (lt_ L k)=(false,0)
 far:Ad9 L m.pl.length=m.len
 chk:(Fs s m).1=0
theorem xz {n j i c k:Nat} (hk:k<n*c) (hj:j=k / c) (hi:i=k % c):j<n/\i<c/\k=j*c+i:=by
 have hc:0<c:=by
  rcases Nat.eq_zero_or_pos c with g|g
  ·subst g;simp at hk
  ·exact g
 subst hj hi;refine⟨Nat.div_lt_of_lt_mul (by rwa [Nat.mul_comm] at hk),Nat.mod_lt _ hc,?_⟩
 have:=Nat.div_add_mod k c;rw[Nat.mul_comm] at this;omega
theorem Vx {s:StyleP} {b:Bed4} {Z:List Int} (h:(Bz s b Z).1=0):∃L,ExactP s b Z (Bz s b Z).2 L:=by
 have harr0:=(Lf h).1;obtain⟨S,C,P,h0,hl,hC,hr,he,hm⟩:=K6 h;obtain⟨c1,c2,c3⟩:=Qq (b:=b) (S:=S) (os:=Jx S) (by rw[hr])
 rw[hr] at c1 c2 c3;dsimp only at c1 c2 c3;obtain⟨hperm,hat⟩:=Q7 hC hl c2 c3;obtain⟨k60,kf,-⟩:=L6.1 c1;obtain⟨G,hG⟩:∃L,(Cp C P P.length).map (Kc C)=L:=⟨_,rfl⟩
 have hT:(Cp C P P.length).length=C.length:=(Cb P.length).1;have hG2:G.length=C.length:=by rw[<-hG,List.length_map,hT]
 rw[hG] at hperm;have hbed:∀p∈G,Dm b S [] p=0:=fun p hp=>kf p (hperm.mem_iff.1 hp)
 have hall:∀p∈G,(Be S p).1=0:=fun p hp=>(Co (hbed p hp)).2.1
 have hch:Ic b S G=0:=(Kz hperm).2 c1;obtain⟨-,-,gap⟩:=L6.1 hch;obtain⟨hsh,hst,hz1,hz2,hzi,h60,hok⟩:=Fi (s:=s) (Z:=Z) (by rw[h0])
 rw[h0] at hsh;injection hsh with _ hsh
 injection hsh with hS hCC
 have hCl:C.length=Z.length*(Em s).length:=by rw[hCC,Hi]
 rw[hm] at harr0 ⊢
 have harr:Fs s ⟨(Mo S P).2,b.wid,b.rx,b.ry,Z,Cp C P P.length⟩=(0,S,G):=by
  rw[I1 h0 hl hC hr,hG] at harr0 ⊢;by_cases g:Ic (Gz b (Mo S P).2) S G=0
  ·rw[if_neg (by rw[g];simp)]
  ·rw[if_pos g] at harr0
   exact absurd harr0 g
 have hatG:∀i,i<C.length->pt G i∈P/\(pt G i).sh=i/\plc (Cp C P P.length) i=az (plc C i) (pt G i):=by
  intro i hi;obtain⟨p,p1,p2,p3,p4⟩:=hat i hi
  have e:pt G i=p:=by
   rw[Dy (by omega)]
   have:G[i]'(by omega)=Kc C ((Cp C P P.length)[i]'(by omega)):=by
    have:=List.getElem_of_eq hG.symm (by omega:i<G.length)
    rw[this,List.getElem_map]
   rw[this,<-Dd (by omega),p4]
  rw[e];exact⟨p1,p2,p3⟩
 have hLt:∀k,k<C.length->lt_ (G.map fun p=>(Be S p).2) k=(Be S (pt G k)).2:=by
  intro k hk;unfold lt_;rw[List.getD,List.getElem?_map,List.getElem?_eq_getElem (by omega),Dy (by omega)]
  rfl
 have hPl:P.length=C.length:=by have:=hperm.length_eq;omega
 unfold Mo at he harr ⊢;obtain⟨e1,e2⟩:=Ty he
 have hmaxP:∀p∈P,O3 (Be S p).2<=(Ef S P P.length).2:=by
  intro p hp;obtain⟨j,hj,rfl⟩:=List.mem_iff_getElem.1 hp;rw[<-Dy hj];exact(e1 j hj).2
 have hin:∀p∈P,0<(Be S p).2.length/\∀q∈(Be S p).2,0<=q.1/\0<=q.2/\q.2<=b.wid:=by
  intro p hp;have hfi:=kf p hp;obtain⟨_,_,e3,_,e5,_⟩:=G9 (Co hfi).2.1;refine⟨by rw[e3];unfold km;simp;omega,fun q hq=>?_⟩
  have h3:=(Co hfi).2.2;unfold Lt at h3;split at h3
  ·cases h3
  ·split at h3
   ·cases h3
   ·rename_i g2
    obtain⟨j,hj,rfl⟩:=Nx hq;cases ho:Da b (gt (Be S p).2 j) with
    | true=>exact absurd (Bq.yes (f:=fun i'=>Da b (gt (Be S p).2 i')) hj ho) g2
    | false=>unfold Da at ho;simp at ho;omega
 have hmax0:∀p∈P,0<=O3 (Be S p).2:=by
  intro p hp;obtain⟨i1,i2⟩:=hin p hp;have:=(Jz i1 (z:=O3 (Be S p).2)).1 (Int.le_refl _) _ (Oa i1);have:=(i2 _ (Oa i1)).1;omega
 have hE:(C.length=0/\(Ef S P P.length).2=0)\/(0<=(Ef S P P.length).2/\(Ef S P P.length).2<=b.len/\b.len<=1048576/\b.wid<=1048576/\∃p∈P,(Ef S P P.length).2=O3 (Be S p).2):=by
  rcases Nat.eq_zero_or_pos P.length with g|g
  ·refine .inl ⟨by omega,?_⟩
   rw[g];rfl
  ·obtain⟨i,hi,ei⟩:=e2 g
   have hfi:=kf _ (Jn hi);have hbb:=(Co hfi).1;unfold Dc at hbb;simp at hbb;refine .inr ⟨by rw[ei];exact hmax0 _ (Jn hi),by rw[ei];exact Tx hfi,by omega,by omega,_,Jn hi,ei⟩
 have hexp:∀k,k<C.length->∃j i,j<Z.length/\i<(Em s).length/\k=j*(Em s).length+i/\plc C k=Ju (plc (Em s) i) j/\shp S k=(F8 s (gi Z j) (plc (Em s) i)).1:=by
  intro k hk;obtain⟨g1,g2,g3⟩:=xz (n:=Z.length) (c:=(Em s).length) (k:=k) (by omega) rfl rfl
  refine⟨_,_,g1,g2,g3,?_,?_⟩
  ·rw[hCC]
   have:=Rc (Em s) Z.length _ _ g1 g2
   rwa [<-g3] at this
  ·rw[hS]
   have:=Zg s Z (Em s) Z.length _ _ g1 g2
   rwa [<-g3] at this
 refine⟨G.map fun p=>(Be S p).2,?_,?_,rfl,rfl,?_,?_,?_,fun j hj i hi=>?_,fun k hk=>?_,fun i k hik hk=>?_,?_,?_⟩
 ·unfold Ia
  rw[harr,if_neg (by simp),Qv hall _ (Nat.le_refl _),List.take_length]
 ·rw[List.length_map];dsimp only;omega
 ·dsimp only
  rcases hE with ⟨-,g⟩|⟨g1,g2,-⟩<;>omega
 ·dsimp only
  rcases hE with ⟨g,-⟩|⟨g1,g2,g3,g4,-⟩<;>omega
 ·dsimp only;rw[hT,hCl,Nat.mul_comm]
 ·dsimp only
  rw[hT];have hjc:(j+1)*(Em s).length<=Z.length*(Em s).length:=Nat.mul_le_mul_right _ hj;rw[Nat.add_mul] at hjc;have ht:j*(Em s).length+i<C.length:=by omega
  have hct:plc C (j*(Em s).length+i)=Ju (plc (Em s) i) j:=by rw[hCC];exact Rc (Em s) Z.length j i hj hi
  rw[Yt (t:=j*(Em s).length+i),if_pos ht]
  ·rw[(hatG _ ht).2.2,hct]
   unfold eqC az Ju;simp
  ·intro k hk hf
   obtain⟨s1,s2⟩:=(Cb (C:=C) (P:=P) P.length).2 k hk
   have hkey:kt (plc C k)=kt (plc C (j*(Em s).length+i)):=by
    rw[<-s1,hct];unfold eqC at hf;simp at hf;unfold kt Ju;dsimp only;rw[hf.1.1.1,hf.1.1.2,hf.1.2]
   rw[Dd hk,Dd ht] at hkey;have hp:=List.pairwise_iff_getElem.1 (List.pairwise_map.1 hC);rcases Nat.lt_trichotomy k (j*(Em s).length+i) with g|g|g
   ·exact absurd hkey (hp _ _ hk ht g)
   ·exact g
   ·exact absurd hkey.symm (hp _ _ ht hk g)
 ·dsimp only at hk ⊢
  rw[hT] at hk;obtain⟨j,i,hj,hi,hji,hck,hsk⟩:=hexp k hk;obtain⟨g1,g2,g3⟩:=hatG k hk;have hfi:=kf _ g1;have hpz:=(Co hfi).2.1;have hfl:=c3 _ g1;have hmemc:plc (Em s) i∈Em s:=by rw[Dd hi];exact List.getElem_mem hi
  have hsok:=hok j hj _ hmemc;obtain⟨-,u2,-,u4⟩:=Kf hst
  have hus:0<=(plc (Em s) i).us/\(plc (Em s) i).us<s.us.length:=by
   have h4:Em s=Fb s.us s.us.length:=by unfold Em;rw[if_neg (by rw[hst];simp)]
   exact(Jf s.us s.us.length).2 _ (h4 ▸ hmemc)
  have hpc:=u4 (plc (Em s) i).us.toNat (by omega)
  rw[hLt k hk,g3,hck];unfold az Ju Ako;dsimp only;unfold F8 at hsk hsok;split at hsok
  ·rename_i g;exact absurd hsok g
  ·rename_i gc
   rw[if_neg gc] at hsk;split at hsok
   ·rename_i g;exact absurd hsok g
   ·rename_i ga
    rw[if_neg ga] at hsk;dsimp only at hsk;have hsp:shp S (pt G k).sh.toNat=shp S k:=by rw[g2];rfl
    have hgr:Zf (Cl s (plc (Em s) i).us).gr false false (pt G k).qu=true:=by
     have h3:=(Co hfi).2.2;unfold Lt at h3;split at h3
     ·cases h3
     ·rename_i g5
      rw[hsp,hsk,hfl] at g5;simpa using g5
    refine⟨⟨by omega,by omega⟩,hus,⟨hpc.1,hpc.2.1⟩,?_,?_,?_,Ed hpz,(hin _ g1).1,(hin _ g1).2⟩
    ·rw[show ((j:Int)).toNat=j by omega];simpa using gc
    ·rw[show ((j:Int)).toNat=j by omega]
     have h5:=hpz;unfold Be at h5 ⊢;split at h5
     ·cases h5
     ·rename_i n1
      rw[if_neg n1];unfold Ip at h5 ⊢;split at h5
      ·rename_i n2;exact absurd h5 n2
      ·rename_i n2
       rw[if_neg n2];split at h5
       ·rename_i n3;exact absurd h5 n3
       ·rename_i n3
        rw[if_neg n3,hsp,hsk,hfl];dsimp only;rw[fo]
    ·unfold Zf at hgr ⊢
     simpa using hgr
 ·dsimp only at hk ⊢
  rw[hT] at hk;rw[hLt k hk,hLt i (by omega)]
  have:=List.pairwise_iff_getElem.1 gap i k (by omega) (by omega) hik
  rw[<-Dy,<-Dy] at this;exact this
 ·dsimp only
  rw[hT]
  have hle:Ad9 (G.map fun p=>(Be S p).2) C.length<=(Ef S P P.length).2:=by
   refine nw ?_ fun i hi=>?_
   ·rcases hE with ⟨-,g⟩|⟨g1,-⟩<;>omega
   ·rw[hLt i hi];exact hmaxP _ (hatG i hi).1
  rcases hE with ⟨g,g2⟩|⟨g1,-,-,-,p,hp,ep⟩
  ·rw[g,g2];rfl
  ·obtain⟨k,hk,rfl⟩:=List.mem_iff_getElem.1 (hperm.mem_iff.2 hp)
   have:=oh (L:=G.map fun p=>(Be S p).2) (show k<C.length by omega)
   rw[hLt k (by omega),Dy hk,<-ep] at this
   omega
 ·rw[harr]
instance:DecidableEq PlcP:=fun a b=>decidable_of_iff (a.ga=b.ga/\a.us=b.us/\a.cp=b.cp/\a.fl=b.fl/\a.qu=b.qu/\a.x=b.x/\a.y=b.y) (by cases a;cases b;simp)
instance:DecidableEq Shp:=fun a b=>decidable_of_iff (a.poly=b.poly/\a.grain=b.grain/\a.mat=b.mat/\a.anc=b.anc) (by cases a;cases b;simp)
def Rr:Bed4:=⟨100,20,0,0⟩
def rcA (w:Int):List (Int×Int):=[(0,0),(w,0),(w,10),(0,10)]
def rcB (w:Int):List (Int×Int):=[(0,10),(-w,10),(-w,0),(0,0)]
def shA (w:Int):List Shp:=[⟨rcA w,1,false,(0,0)⟩,⟨rcB w,1,false,(0,0)⟩]
def cpA:List PlcP:=[⟨0,0,0,false,0,0,0⟩,⟨0,0,1,true,0,0,0⟩]
def pA0:Pt5:=⟨0,false,0,0,0⟩
def mkA (w z:Int):MkP:=⟨w,20,0,0,[z],[⟨0,0,0,false,0,0,0⟩,⟨0,0,1,true,0,w,10⟩]⟩
theorem Ahv:Bd Ib [0]=(0,shA 10,cpA):=Prod.ext (by decide +kernel) (Prod.ext (by decide +kernel) (by decide +kernel))
theorem Ahu:Bd Ib [1]=(0,shA 12,cpA):=Prod.ext (by decide +kernel) (Prod.ext (by decide +kernel) (by decide +kernel))
theorem Aht:Bd Ib []=(3,[],[]):=Prod.ext (by decide +kernel) (Prod.ext (by decide +kernel) (by decide +kernel))
theorem Alw:Jx (shA 10)=[0,1]:=by decide +kernel
theorem Alv:Jx (shA 12)=[0,1]:=by decide +kernel
theorem Ajw:Fw Rr (shA 10) [] 0=(0,pA0):=by rw[Ms];decide +kernel
theorem Ajv:Fw Rr (shA 10) [pA0] 1=(0,⟨1,false,0,10,10⟩):=by rw[Ms];decide +kernel
theorem Aju:Fw Rr (shA 12) [] 0=(0,pA0):=by rw[Ms];decide +kernel
theorem Ajt:Fw Rr (shA 12) [pA0] 1=(0,⟨1,false,0,12,10⟩):=by rw[Ms];decide +kernel
theorem Alu:Ho Rr (shA 10) [0,1]=(0,[pA0,⟨1,false,0,10,10⟩]):=by
 have g1:Ch Rr (shA 10) [0,1] 1=(0,[pA0]):=by simp[Ch,gi,Ajw]
 have g2:Ch Rr (shA 10) [0,1] 2=(0,[pA0,⟨1,false,0,10,10⟩]):=by rw[Ch,g1];simp[gi,Ajv]
 unfold Ho;rw[if_neg (by simp)];exact g2
theorem Als:Ho Rr (shA 12) [0,1]=(0,[pA0,⟨1,false,0,12,10⟩]):=by
 have g1:Ch Rr (shA 12) [0,1] 1=(0,[pA0]):=by simp[Ch,gi,Aju]
 have g2:Ch Rr (shA 12) [0,1] 2=(0,[pA0,⟨1,false,0,12,10⟩]):=by rw[Ch,g1];simp[gi,Ajt]
 unfold Ho;rw[if_neg (by simp)];exact g2
theorem Aly:Mo (shA 10) [pA0,⟨1,false,0,10,10⟩]=(0,10):=by decide +kernel
theorem Alx:Mo (shA 12) [pA0,⟨1,false,0,12,10⟩]=(0,12):=by decide +kernel
theorem Aea:Bz Ib Rr [0]=(0,mkA 10 0):=by
 unfold Bz;rw[Ahv];dsimp only;rw[Alw,Alu];dsimp only;rw[Aly];rfl
theorem Al0:Bz Ib Rr [1]=(0,mkA 12 1):=by
 unfold Bz;rw[Ahu];dsimp only;rw[Alv,Als];dsimp only;rw[Alx];rfl
theorem Alz:Bz Ib Rr []=(3,Na):=by
 unfold Bz;rw[Aht];rfl
theorem Ajx:(([0]:List Int).map (Abv Ib (Em Ib))).sum=400:=by decide +kernel
theorem Ahs:Zo Ib (mkA 10 0)=(400,0):=by
 have h:=(Lf (s:=Ib) (b:=Rr) (Z:=[0]) (by rw[Aea])).2.1
 rw[Aea,Ajx] at h;exact h
theorem Ajy:(Fs Ib (mkA 10 0)).1=0:=by
 have h:=(Lf (s:=Ib) (b:=Rr) (Z:=[0]) (by rw[Aea])).1
 rwa [Aea] at h
theorem Ahw:∃L,Ia Ib (mkA 10 0)=(0,L)/\L.length=2:=by
 obtain⟨L,h⟩:=Vx (s:=Ib) (b:=Rr) (Z:=[0]) (by rw[Aea])
 have h1:=h.pols;have h2:=h.len;rw[Aea] at h1 h2;exact⟨L,h1,h2⟩
theorem Ajh (m:MkP) (w z:Int) (h:m=mkA w z):∀p∈m.pl,okC (kt p):=by
 subst h;intro p hp;simp[mkA] at hp;rcases hp with rfl|rfl<;>(unfold okC kt inR;dsimp only;omega)
def Aih:Prop:=∀w:World,Calls Tryz.prog 9 #[] w fun e w'=>e=.returned (.bool true)/\Below w.heap.size w w'
theorem Akm {w:World} {g:Nat} {t:TypeId} {a0 a1 a2 a3 a4 a5 a6 a7 a8 a9 b0 b1:Value} (H:Bb w g t #[a0,a1,a2,a3,a4,a5,a6,a7,a8,a9,b0,b1]):w.cell? ⟨g,0,none⟩=some a0/\w.cell? ⟨g,1,none⟩=some a1/\w.cell? ⟨g,2,none⟩=some a2/\w.cell? ⟨g,3,none⟩=some a3/\w.cell? ⟨g,4,none⟩=some a4/\w.cell? ⟨g,5,none⟩=some a5/\w.cell? ⟨g,6,none⟩=some a6/\w.cell? ⟨g,7,none⟩=some a7/\w.cell? ⟨g,8,none⟩=some a8/\w.cell? ⟨g,9,none⟩=some a9/\w.cell? ⟨g,10,none⟩=some b0/\w.cell? ⟨g,11,none⟩=some b1 :=
 ⟨(H.cell 0).trans rfl,(H.cell 1).trans rfl,(H.cell 2).trans rfl,(H.cell 3).trans rfl,(H.cell 4).trans rfl,(H.cell 5).trans rfl,(H.cell 6).trans rfl,(H.cell 7).trans rfl,(H.cell 8).trans rfl,(H.cell 9).trans rfl,(H.cell 10).trans rfl,(H.cell 11).trans rfl⟩
theorem dk0 (X:World) (t:TypeId) (cs:Array Value) (o:Obj):Bb ((X.alloc (.cells cs t)).alloc o).drew X.heap.size t cs:=((Bb.new X t cs).alloc o).drew
theorem dk1 (X:World) (o:Obj) (t:TypeId) (cs:Array Value):Bb ((X.alloc o).alloc (.cells cs t)).drew (X.heap.size+1) t cs:=(Bb.new2 X o t cs).drew
theorem ri {s:StyleP} {b:Bed4} {Z:List Int} (h:(Bz s b Z).1=0):(∀p∈(Bz s b Z).2.pl,okC (kt p))/\(Bz s b Z).2.pl.length<=60:=by
 obtain⟨S,C,P,h0,hl,-,-,-,hm⟩:=K6 h;obtain⟨-,h60⟩:=Xc h0;have hc:=T5 h0;obtain⟨g1,g2⟩:=Cb (C:=C) (P:=P) P.length;rw[hm];dsimp only;refine⟨fun p hp=>?_,by omega⟩
 obtain⟨i,hi,rfl⟩:=List.mem_iff_getElem.1 hp;rw[<-Dd hi,(g2 i (by omega)).1,Dd (by omega)]
 exact hc _ (List.getElem_mem _)
theorem in1 (w:World) (z:Int):InS (w.alloc (.cells #[.int .i64 z] 3)) (some ⟨w.heap.size,0,none⟩) 1 [z] :=
 ⟨rfl,.inr ⟨_,0,rfl,fun k hk=>by obtain rfl:k=0:=by omega
                                 exact((Bb.new w _ _).cell 0).trans rfl⟩⟩
theorem Um (w:World) :
 Calls Tryz.prog 9 #[] w fun e w'=>e=.returned (.bool true)/\Below w.heap.size w w':=by
 obtain⟨s,hs⟩:∃s,s=Ib:=⟨_,rfl⟩
 have hsm:SmS s:=by rw[hs];exact xm
 have HPA:=Lib.hid xl;have HSH:=Lib.hid Ahv;have HSN:=Lib.hid Aht;have HS1:=Lib.hid Ahu;have HB0:=Lib.hid Aea;have HB1:=Lib.hid Al0;have HBN:=Lib.hid Alz;have HU:=Lib.hid Ahs;have HAR:=Lib.hid Ajy;have HPO:=Lib.hid Ahw;rw[<-hs] at HPA HSH HSN HS1 HB0 HB1 HBN HU HAR HPO;clear hs;obtain⟨m,hm⟩:∃m,m=mkA 10 0:=⟨_,rfl⟩
 obtain⟨m1,hm1⟩:∃m,m=mkA 12 1:=⟨_,rfl⟩
 have hok:=Ajh m 10 0 hm;have hml:m.len=10:=by rw[hm];rfl
 have hmp:m.pl.length=2:=by rw[hm];rfl
 have hml1:m1.len=12:=by rw[hm1];rfl
 rw[<-hm] at HB0 HU HAR HPO;rw[<-hm1] at HB1;clear hm hm1;have hok2:=Lib.hid hok;have hpl2:=Lib.hid (show m.pl.length<=1000 by omega)
 have h20a:=Lib.hid (show (Bd s [0]).1=0->(Bd s [0]).2.1.length<20 by rw[HSH.out];intro _;decide)
 have h20b:=Lib.hid (show (Bd s [1]).1=0->(Bd s [1]).2.1.length<20 by rw[HS1.out];intro _;decide)
 have h20c:=Lib.hid (show (Bd s []).1=0->(Bd s []).2.1.length<20 by rw[HSN.out];intro h;cases h)
 clear hok;go_enter Tryz.func9,Tryz.ntmps9
 go_upto_region 2 with (go_at_call 23;refine(HPA.out _).mono ?_;rintro e w1 ⟨vs,rfl,hS,hb1⟩;obtain⟨A1,c1,A2,c2,A3,c3,A4,c4,A5,c5,A6,c6,rfl,-⟩:=id hS)
 refine Ar (fun X=>Below w1.heap.size w1 X/\Bb X w1.heap.size 29 #[.string s.nm,.slice A1 s.sz.length c1,.slice A2 s.mu.length c2,.slice A3 s.pc.length c3,.slice A4 s.us.length c4,.slice A5 s.se.length c5,.slice A6 s.no c6]) ⟨An (Below.refl _ _) _,Bb.new _ _ _⟩ ?_
 rintro X ⟨hbX,hP⟩;have hSX:=hS.keep hbX;have hbWX:=Ao hb1 hbX;obtain⟨g1,hg1⟩:∃g,w1.heap.size=g:=⟨_,rfl⟩
 rw[hg1] at hP;obtain⟨p0,p1,p2,p3,p4,p5,p6⟩:=st7 hP;rw[hg1];clear hg1 hS hb1 hbX
 go_upto_region 3 with (go_at_call 24;refine(G6 _ s _ 1 1 [0] _ (Nat.le_refl _) (by omega) (in1 X 0) hsm (hSX.keep (An (Below.refl _ _) _))).mono ?_;rintro e w2 ⟨v1,v2,rfl,hoS,hoP,hb2⟩;rw[HSH.out] at hoS hoP ⊢;dsimp only at hoS hoP ⊢;obtain⟨AS,cS,rfl,lS,mS,-⟩:=hoS.shs (by decide);obtain⟨AP,cP,rfl,lP,mP,hPL⟩:=hoP.pls;rw[show (shA 10).length=2 from rfl,show cpA.length=2 from rfl] at *;obtain⟨bP,oP,rfl,hcP⟩:=hPL.at_ (show 0<2 by omega))
 have hb2X:=Ao (An (Below.refl _ _) _) hb2;have hP2:=hP.keep hb2X;have hS2:=hSX.keep hb2X;have hbW2:=Ao hbWX hb2X;obtain⟨q0,q1,q2,q3,q4,q5,q6⟩:=st7 hP2;have e0:=hcP 0 (by omega)
 have e1:=hcP 1 (by omega)
 clear hb2X hP hSX hbWX p0 p1 p2 p3 p4 p5 p6 hoS hoP hcP
 go_upto_region 4 with (go_at_call 22;refine(K7 _ s Rr _ 1 1 [0] _ (Nat.le_refl _) (by omega) (by intro h;cases h) (in1 w2 0) hsm (hS2.keep (An (Below.refl _ _) _)) h20a.out).mono ?_;rintro e w3 ⟨vm,rfl,hmk,hb3⟩;rw[HB0.out] at hmk ⊢;dsimp only at hmk ⊢;have hM3:=hmk w3 (fun _ _ _=>rfl);obtain⟨M1,d1,M2,d2,rfl,-⟩:=id hM3)
 have hb3X:=Ao (An (Below.refl _ _) _) hb3;rw[hml,hmp] at hM3 ⊢;clear hmk;refine Ar (fun Y=>Below w3.heap.size w3 Y/\Bb Y w3.heap.size 38 #[.int .i64 10,.int .i64 m.wid,.int .i64 m.rx,.int .i64 m.ry,.slice M1 m.sz.length d1,.slice M2 2 d2]) ⟨An (Below.refl _ _) _,Bb.new _ _ _⟩ ?_
 rintro Y ⟨hbY,hM⟩;obtain⟨GM,hGM⟩:∃g,w3.heap.size=g:=⟨_,rfl⟩
 have hb2Y:=Ao hb3X hbY;have hMY:=hM3.keep hbY;rw[hGM] at hM ⊢;have hPY:=hP2.keep hb2Y;have hSY:=hS2.keep hb2Y;have hbWY:=Ao hbW2 hb2Y;have f0:=(e0.keep hb2Y).2.2.2.1;have f1:=(e1.keep hb2Y).2.2.2.1;simp only[Nat.zero_mul,Nat.one_mul,Nat.add_zero] at f0 f1;obtain⟨l0,l1,l2,l3,l4,l5⟩:=mk6 hM;clear hb3X hb3 hM3 hGM hb2Y hP2 hS2 hbW2 q0 q1 q2 q3 q4 q5 q6 e0 e1 hbY hml hmp;go_upto_region 6 with fail;obtain⟨L,hL,hL2⟩:=HPO;have HL:=Lib.hid hL;clear hL l0 l1 l2 l3 l4 l5 f0 f1;obtain⟨l0,l1,l2,l3,l4,l5⟩:=mk6 hM;obtain⟨p0,p1,p2,p3,p4,p5,p6⟩:=st7 hPY
 go_upto_region 7 with (go_at_call 20;refine(kh _ s _ m _ hsm hSY hMY hok2.out hpl2.out).mono ?_;rintro e w4 ⟨rfl,hb4⟩;rw[HU.out])
 have hM4:=hM.keep hb4;have hP4:=hPY.keep hb4;have hb4W:=Ao hbWY hb4;clear l0 l1 l2 l3 l4 l5 p0 p1 p2 p3 p4 p5 p6;obtain⟨l0,l1,l2,l3,l4,l5⟩:=mk6 hM4;obtain⟨p0,p1,p2,p3,p4,p5,p6⟩:=st7 hP4
 go_upto_region 8 with (go_at_call 10;refine(Nw _ s _ m _ hsm (hSY.keep hb4) (hMY.keep hb4) hok2.out hpl2.out).mono ?_;rintro e w5 ⟨v5,rfl,ho5,hb5⟩;rw[HL.out] at ho5 ⊢;obtain⟨AL,cL,rfl,-,-,-⟩:=ho5.spss;rw[hL2])
 have hM5:=hM4.keep hb5;have hP5:=hP4.keep hb5;have hb45:=Ao hb4 hb5;have hb5W:=Ao hb4W hb5;clear l0 l1 l2 l3 l4 l5 p0 p1 p2 p3 p4 p5 p6 hM4 hP4 hb4W hb4 hb5;obtain⟨l0,l1,l2,l3,l4,l5⟩:=mk6 hM5;obtain⟨p0,p1,p2,p3,p4,p5,p6⟩:=st7 hP5
 go_upto_region 10 with (go_at_call 19;refine(Jb _ s _ m _ hsm (hSY.keep hb45) (hMY.keep hb45) hok2.out hpl2.out).mono ?_;rintro e w6 ⟨rfl,hb6⟩;rw[HAR.out])
 have hP6:=hP5.keep hb6;have hS6:=(hSY.keep hb45).keep hb6;have hb6W:=Ao hb5W hb6;clear l0 l1 l2 l3 l4 l5 p0 p1 p2 p3 p4 p5 p6 hM5 hP5 hb5W hb6 hb45 ho5 hM hMY hPY hSY hbWY;obtain⟨p0,p1,p2,p3,p4,p5,p6⟩:=st7 hP6
 go_upto_region 11 with (go_at_call 22;refine(K7 _ s Rr _ 1 1 [1] _ (Nat.le_refl _) (by omega) (by intro h;cases h) (in1 w6 1) hsm (hS6.keep (An (Below.refl _ _) _)) h20b.out).mono ?_;rintro e w7 ⟨vm,rfl,hmk,hb7⟩;rw[HB1.out] at hmk ⊢;dsimp only at hmk ⊢;obtain⟨K1,k1,K2,k2,rfl,-⟩:=id (hmk w7 (fun _ _ _=>rfl));rw[hml1])
 refine Ar (fun Y=>Below w7.heap.size w7 Y/\Bb Y w7.heap.size 38 #[.int .i64 12,.int .i64 m1.wid,.int .i64 m1.rx,.int .i64 m1.ry,.slice K1 m1.sz.length k1,.slice K2 m1.pl.length k2]) ⟨An (Below.refl _ _) _,Bb.new _ _ _⟩ ?_
 rintro Y7 ⟨hbY7,hM7⟩;have hb67:=Ao (Ao (An (Below.refl _ _) _) hb7) hbY7;have hP7:=hP6.keep hb67;have hS7:=hS6.keep hb67;have hb7W:=Ao hb6W hb67;obtain⟨G7,hG7⟩:∃g,w7.heap.size=g:=⟨_,rfl⟩
 rw[hG7] at hM7 ⊢;clear p0 p1 p2 p3 p4 p5 p6 hP6 hS6 hb6W hmk hb7 hbY7 hG7 hb67 hml1;obtain⟨p0,p1,p2,p3,p4,p5,p6⟩:=st7 hP7
 go_upto_region 12 with (go_at_call 22;refine(K7 _ s Rr none 0 0 [] _ (Nat.le_refl _) (by omega) (fun _=>rfl) ⟨rfl,.inl rfl⟩ hsm hS7 h20c.out).mono ?_;rintro e w8 ⟨vm,rfl,hmk,hb8⟩;rw[HBN.out] at hmk ⊢;dsimp only at hmk ⊢;obtain⟨N1,j1,N2,j2,rfl,-⟩:=id (hmk w8 (fun _ _ _=>rfl)))
 obtain⟨l0,-,-,-,-,-⟩:=mk6 ((hM7.keep hb8).alloc (.cells #[.int .i64 Na.len,.int .i64 Na.wid,.int .i64 Na.rx,.int .i64 Na.ry,.slice N1 Na.sz.length j1,.slice N2 Na.pl.length j2] 38));go_wp2_with fail;go_ret;exact⟨rfl,An (Ao hb7W hb8) _⟩
end Go.Proofs.YtpbchbcdgikonaaGreat
