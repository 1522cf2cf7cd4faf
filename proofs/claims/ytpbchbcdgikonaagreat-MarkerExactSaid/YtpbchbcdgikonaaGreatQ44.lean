/- Lean texts of the claim. -/
import Derived.Test.YtpbchbcdgikonaaGreatQ43
namespace Go.Proofs.YtpbchbcdgikonaaGreat
set_option linter.unusedVariables false
set_option linter.unusedSimpArgs false
set_option maxRecDepth 100000
set_option maxHeartbeats 4000000
open Go.RowKit
def tu:Array Value:=#[.int .i64 0,.int .i64 0,.int .i64 0,.int .i64 0,.slice none 0 0,.slice none 0 0]
theorem fe (w:World):MkV w tu Na:=⟨none,0,none,0,rfl,⟨Nat.le_refl _,by omega,rfl,.inl rfl⟩,Nat.le_refl _,by omega,fun _=>rfl,rfl,.inl rfl⟩
def Ae9 (w:World) (r:Int×MkP) (e:Ending) (w':World):Prop:=∃vs,e=.returned (.tuple #[.agg vs,.int .i64 r.1])/\(∀W':World,(∀k,w.heap.size<=k->k<w'.heap.size->W'.heap[k]? = w'.heap[k]?)->MkV W' vs r.2)/\Below w.heap.size w w'
theorem mk6 {w:World} {g:Nat} {t:TypeId} {a b c d e f:Value} (H:Bb w g t #[a,b,c,d,e,f]):w.cell? ⟨g,0,none⟩=some a/\w.cell? ⟨g,1,none⟩=some b/\w.cell? ⟨g,2,none⟩=some c/\w.cell? ⟨g,3,none⟩=some d/\w.cell? ⟨g,4,none⟩=some e/\w.cell? ⟨g,5,none⟩=some f :=
 ⟨(H.cell 0).trans rfl,(H.cell 1).trans rfl,(H.cell 2).trans rfl,(H.cell 3).trans rfl,(H.cell 4).trans rfl,(H.cell 5).trans rfl⟩
theorem Afe {a w:World} {b:Nat} (h:Below b a w) {g:Nat} (hg:b<=g) (u0 u1 u2 u3 u4 u5:Value):Below b a ((((((w.setCell ⟨g,0,none⟩ u0).setCell ⟨g,1,none⟩ u1).setCell ⟨g,2,none⟩ u2).setCell ⟨g,3,none⟩ u3).setCell ⟨g,4,none⟩ u4).setCell ⟨g,5,none⟩ u5) :=
 Below.setCell (Below.setCell (Below.setCell (Below.setCell (Below.setCell (Below.setCell h hg _) hg _) hg _) hg _) hg _) hg _
theorem Hl {w w':World} {row:Option Nat} {p:Addr} {v:Value} (hg:w.grownBy w' row) (h:w.cell? p=some v) (hne:some p.block≠row):w'.cell? p=some v:=by
 have e:=hg.block p.block (Bj h) hne;have:w'.cell? p=w.cell? p:=by unfold World.cell?;rw[e]
 rw[this];exact h
theorem mq {l:List PlcP} {k:Nat} (h:k<l.length) (q x y:Int):(((l.flatMap ew).set (k*7+4) (.int .i64 q)).set (k*7+5) (.int .i64 x)).set (k*7+6) (.int .i64 y)=(l.set k ⟨(plc l k).ga,(plc l k).us,(plc l k).cp,(plc l k).fl,q,x,y⟩).flatMap ew:=by
 induction l generalizing k with
 | nil=>simp at h
 | cons a l ih =>
   cases k with
   | zero=>simp[ew,List.flatMap_cons,plc]
   | succ k =>
     rw[List.set_cons_succ,List.flatMap_cons,List.flatMap_cons];have e:plc (a::l) (k+1)=plc l k:=by unfold plc;simp[List.getD]
     rw[e,<-ih (by simpa using h)]
     simp only[ew,List.cons_append,List.nil_append];rw[show (k+1)*7+4=(k*7+4)+1+1+1+1+1+1+1 by omega,show (k+1)*7+5=(k*7+5)+1+1+1+1+1+1+1 by omega,show (k+1)*7+6=(k*7+6)+1+1+1+1+1+1+1 by omega]
     simp only[List.set_cons_succ]
theorem R4.store3 {w:World} {base g cap n:Nat} {l:List PlcP} (h:R4 w base (.slice (some ⟨g,0,none⟩) n cap) l) (hn:l.length=n) {k:Nat} (hk:k<n) (q x y:Int) :
 R4 (((w.setCell ⟨g,k*7+4,none⟩ (.int .i64 q)).setCell ⟨g,k*7+5,none⟩ (.int .i64 x)).setCell ⟨g,k*7+6,none⟩ (.int .i64 y)) base (.slice (some ⟨g,0,none⟩) n cap) (l.set k ⟨(plc l k).ga,(plc l k).us,(plc l k).cp,(plc l k).fl,q,x,y⟩):=by
 subst hn;have h1:=(World.ownsRow.stored h (k*7+4) (.int .i64 q)).1;have h2:=(World.ownsRow.stored h1 (k*7+5) (.int .i64 x)).1;have h3:=(World.ownsRow.stored h2 (k*7+6) (.int .i64 y)).1;rw[mq hk] at h3;unfold R4 OwG;rw[List.length_set];exact h3
theorem OwI.insA {w:World} {base n c:Nat} {A:Option Addr} {l:List Int} (h:OwI w base (.slice A n c) l) (hn:l.length=n):InS w A n l:=by
 subst hn;obtain⟨A',c',e,-,h2,-⟩:=OwI.ins h;injection e with e1
 rw[e1];exact h2
theorem R4.plsA {w:World} {base n c:Nat} {A:Option Addr} {l:List PlcP} (h:R4 w base (.slice A n c) l) (hn:l.length=n):PlS w A n l:=by
 subst hn;obtain⟨A',c',e,-,-,h2⟩:=R4.pls h;injection e with e1
 rw[e1];exact h2
theorem Ama (vs:Array Value) (s:StyleP) (b:Bed4) (A:Option Addr) (n c:Nat) (Z:List Int) (w:World) (hn:n<=c) (hcc:c<=9223372036854775807) (hZ:InS w A n Z) (hsm:SmS s) (hv:StV w vs s) (h:(Bd s Z).1≠0) :
 Calls Tryz.prog 22 #[.agg vs,Hz b,.slice A n c] w (Ae9 w ((Bd s Z).1,Na)):=by
 obtain⟨r,hr⟩:∃r,Bd s Z=r:=⟨_,rfl⟩
 rw[hr] at h ⊢;have HE:=Lib.hid hr;obtain⟨x,S,C⟩:=r;dsimp only at h ⊢;have hne:(x != 0)=true:=by simpa using h
 clear hr h;obtain⟨A1,c1,A2,c2,A3,c3,A4,c4,A5,c5,A6,c6,rfl,⟨v1,v2,v3⟩,⟨v4,v5,v6⟩,⟨v7,v8,v9⟩,⟨v10,v11,v12⟩,⟨v13,v14,v15⟩,v16,v17⟩:=id hv;obtain⟨bl,bw,rx,ry⟩:=b;unfold Hz;dsimp only at *
 go_enter Tryz.func22,Tryz.ntmps22;go_upto_region 1 with fail;refine Ar (fun X=>Below w.heap.size w X/\Bb X w.heap.size 29 #[.string s.nm,.slice A1 s.sz.length c1,.slice A2 s.mu.length c2,.slice A3 s.pc.length c3,.slice A4 s.us.length c4,.slice A5 s.se.length c5,.slice A6 s.no c6]/\Bb X (w.heap.size+1) 33 #[.int .i64 bl,.int .i64 bw,.int .i64 rx,.int .i64 ry]/\Bb X (w.heap.size+1+1) 38 #[.int .i64 0,.int .i64 0,.int .i64 0,.int .i64 0,.slice none 0 0,.slice none 0 0]) ⟨An (An (An (Below.refl _ _) _) _) _,((Bb.new _ _ _).alloc _).alloc _,(Bb.new2 _ _ _ _).alloc _,Bb.new3 _ _ _ _ _⟩ ?_
 rintro X ⟨hbX,hP,hK,hR⟩;obtain⟨p0,p1,p2,p3,p4,p5,p6⟩:=st7 hP;have hvX:=hv.keep hbX
 go_upto_region 3 with (go_at_call 24;refine(G6 _ s A n c Z _ hn hcc (hZ.keep hbX) hsm hvX).mono ?_;rintro e w1 ⟨u1,u2,rfl,hoS,hoP,hb1⟩;rw[HE.out] at hoS ⊢;obtain⟨xs,hxs⟩:=hoS.own;obtain⟨AS,cS,rfl,-⟩:=OwG.form2 hxs)
 refine Ar (fun Y=>Below w1.heap.size w1 Y) (An (Below.refl _ _) _) ?_
 intro Y hbY;have hRY:=(hR.keep hb1).keep hbY;obtain⟨q0,q1,q2,q3,q4,q5⟩:=mk6 hRY;have g0:=hRY.frozen 0;have g1:=hRY.frozen 1;have g2:=hRY.frozen 2;have g3:=hRY.frozen 3;have g4:=hRY.frozen 4;have g5:=hRY.frozen 5;go_wp2_with fail;obtain⟨s0,s1,s2,s3,s4,s5⟩:=mk6 ((((((hRY.set_ 0 (.int .i64 0)).set_ 1 (.int .i64 0)).set_ 2 (.int .i64 0)).set_ 3 (.int .i64 0)).set_ 4 (.slice none 0 0)).set_ 5 (.slice none 0 0));exact bodyPost_ret (v:=.tuple #[.agg tu,.int .i64 x]) (by simp[results,Tryz.results22,go_sem,s0,s1,s2,s3,s4,s5,tu]) rfl ⟨tu,rfl,fun W' _=>fe W',Afe (Ao (Ao hbX hb1) hbY) (by omega) _ _ _ _ _ _⟩
theorem Xc {s:StyleP} {Z:List Int} {S:List Shp} {C:List PlcP} (h:Bd s Z=(0,S,C)):S.length=C.length/\S.length<=60:=by
 have h0:(Bd s Z).1=0:=by rw[h]
 obtain⟨e,-,-,-,-,h60,-⟩:=Fi h0;rw[h] at e;injection e with _ e
 injection e with e1 e2
 rw[e1,e2,Hm,Hi,Nat.mul_comm];exact⟨rfl,h60⟩
theorem Al9 (vs:Array Value) (s:StyleP) (b:Bed4) (A:Option Addr) (n c:Nat) (Z:List Int) (w:World) (hn:n<=c) (hcc:c<=9223372036854775807) (hnil:A=none->c=0) (hZ:InS w A n Z) (hsm:SmS s) (hv:StV w vs s) (h:(Bd s Z).1=0) (h20:(Bd s Z).2.1.length<20) :
 Calls Tryz.prog 22 #[.agg vs,Hz b,.slice A n c] w (Ae9 w (Bz s b Z)):=by
 obtain⟨r,hr⟩:∃r,Bd s Z=r:=⟨_,rfl⟩
 obtain⟨x,S,C⟩:=r;rw[hr] at h h20;dsimp only at h h20;subst h;obtain⟨hSC,-⟩:=Xc hr;have hn6:n<=6:=by have:=(Fi (s:=s) (Z:=Z) (by rw[hr])).2.2.2.1;rw[hZ.1] at this;exact this
 have HE:=Lib.hid hr
 have HBW:=Lib.hid (show Bz s b Z=if (Ho b S (Jx S)).1≠0 then ((Ho b S (Jx S)).1,Na) else if (Mo S (Ho b S (Jx S)).2).1≠0 then ((Mo S (Ho b S (Jx S)).2).1,Na) else (0,⟨(Mo S (Ho b S (Jx S)).2).2,b.wid,b.rx,b.ry,Z,Cp C (Ho b S (Jx S)).2 (Ho b S (Jx S)).2.length⟩) by
  unfold Bz;rw[hr];dsimp only;rw[if_neg (show ¬((0:Int)≠0) by simp)])
 have HSO:=Lib.hid (show Iw (Ns S) (upI S.length S.length) S.length=Jx S by rw[Ws];rfl)
 have HPM:=Lib.hid (show ∀z∈Jx S,0<=z/\z<S.length from fun z hz=>by
  have:=(Nr S).mem_iff.1 hz;simp at this;omega)
 have HLO:=Lib.hid (show (Jx S).length=S.length by rw[(Nr S).length_eq];simp)
 obtain⟨rr,hrr⟩:∃r,Ho b S (Jx S)=r:=⟨_,rfl⟩
 have HOK:=Lib.hid (fun (h:rr.1=0)=>U0 (b:=b) (S:=S) (os:=Jx S) (by rw[hrr];exact h))
 have HEX:=Lib.hid (fun (h:rr.1=0)=>Zu (b:=b) (S:=S) (os:=Jx S) (by rw[hrr];exact h))
 rw[hrr] at HBW HEX HOK;have HRN:=Lib.hid hrr;obtain⟨er,ps⟩:=rr;dsimp only at HBW HEX HOK;obtain⟨O,hO⟩:∃O,Jx S=O:=⟨_,rfl⟩
 rw[hO] at HSO HPM HLO HOK HRN;have HCL:=Lib.hid hSC;have HSL:=Lib.hid (show S.length<=1000000 by omega)
 clear hr hrr hO hSC;obtain⟨A1,c1,A2,c2,A3,c3,A4,c4,A5,c5,A6,c6,rfl,⟨v1,v2,v3⟩,⟨v4,v5,v6⟩,⟨v7,v8,v9⟩,⟨v10,v11,v12⟩,⟨v13,v14,v15⟩,v16,v17⟩:=id hv;obtain⟨bl,bw,rx,ry⟩:=b;unfold Hz;dsimp only at *
 go_enter Tryz.func22,Tryz.ntmps22;go_upto_region 1 with fail;refine Ar (fun X=>Below w.heap.size w X/\Bb X w.heap.size 29 #[.string s.nm,.slice A1 s.sz.length c1,.slice A2 s.mu.length c2,.slice A3 s.pc.length c3,.slice A4 s.us.length c4,.slice A5 s.se.length c5,.slice A6 s.no c6]/\Bb X (w.heap.size+1) 33 #[.int .i64 bl,.int .i64 bw,.int .i64 rx,.int .i64 ry]/\Bb X (w.heap.size+1+1) 38 #[.int .i64 0,.int .i64 0,.int .i64 0,.int .i64 0,.slice none 0 0,.slice none 0 0]) ⟨An (An (An (Below.refl _ _) _) _) _,((Bb.new _ _ _).alloc _).alloc _,(Bb.new2 _ _ _ _).alloc _,Bb.new3 _ _ _ _ _⟩ ?_
 rintro X ⟨hbX,hP,hK,hR⟩;obtain⟨p0,p1,p2,p3,p4,p5,p6⟩:=st7 hP;have hvX:=hv.keep hbX
 go_upto_region 4 with (go_at_call 24;refine(G6 _ s A n c Z _ hn hcc (hZ.keep hbX) hsm hvX).mono ?_;rintro e w1 ⟨u1,u2,rfl,hoS,hoP,hb1⟩;rw[HE.out] at hoS hoP ⊢;dsimp only at hoS hoP ⊢;obtain⟨AS,cS,rfl,lS,mS,hSS⟩:=hoS.shs HSL.out;obtain⟨AP,cP,rfl,lP,mP,-⟩:=R4.pls hoP)
 obtain⟨nq,hnq⟩:∃m,S.length=m:=⟨_,rfl⟩
 have hcq:C.length=nq:=by rw[<-HCL.out,hnq]
 rw[hnq] at hSS h20 HSO HPM HLO lS ⊢;rw[hcq] at hoP lP ⊢;have HCQ:=Lib.hid hcq;have HNQ:=Lib.hid hnq;refine Ar (fun Y=>Below w1.heap.size w1 Y/\Bb Y w1.heap.size 82 #[.slice AS nq cS]) ⟨An (Below.refl _ _) _,Bb.new _ _ _⟩ ?_
 rintro Y ⟨hbY,hV⟩;obtain⟨ZZ,hmk,hZZ⟩:=ks nq (by omega)
 have hP1:=(hK.keep hb1).keep hbY;have hR1:=(hR.keep hb1).keep hbY;have hSY:=hSS.keep hbY;have hoPY:=OwG.keep hoP hbY;have hbXY:=Ao hb1 hbY;have hZY:=(hZ.keep hbX).keep hbXY;have hRX:w.heap.size+1+1<X.heap.size:=hR.lt;have hZZY:=hZZ Y;have hbY0:=An (Below.refl Y.heap.size Y) (.cells ZZ 3);obtain⟨B8,hB8⟩:∃B,w1.heap.size=B:=⟨_,rfl⟩
 obtain⟨BO,hBO⟩:∃B,Y.heap.size=B:=⟨_,rfl⟩
 rw[hB8] at hV ⊢;have v0:Y.cell? ⟨B8,0,none⟩=some (.slice AS nq cS):=(hV.cell 0).trans rfl;have HSW:=Lib.hid (show SoW Y B8 nq S from ⟨AS,cS,hV,hSY⟩)
 have HBO:=Lib.hid hBO;clear hP hK hR hoS hoP hSS hb1 hbY p0 p1 p2 p3 p4 p5 p6 hvX hZZ hcq hnq v3 v6 v9 v12 v15 hB8;go_upto_region 6 with fail;clear hmk;rw[<-ub] at hZZY;rw[hBO] at hZZY;clear hBO;go_loopw [12,34] (fun _ i wx=>∃k:Nat,k<=nq/\i=.int .i64 k/\OwI wx Y.heap.size (.slice (some ⟨BO,0,none⟩) nq nq) (upI nq k)/\Below Y.heap.size Y wx) (fun _ i _=>nq-(intOf i).toNat)
 case atStart=>exact⟨0,Nat.zero_le _,rfl,by rw[HBO.out];exact hZZY,hbY0⟩
 case round =>
  clear hZZY hbY0;obtain⟨k,hk,rfl,hoI,hb⟩:=hrel;by_cases hlt:k<nq
  ·obtain⟨e0,f0⟩:=OwI.cellsI hoI (Ut nq k) hlt
   have B1:(k:Int)<(nq:Int):=by omega
   have HU:=Lib.hid (uc hlt);go_wp2_with fail;exact⟨⟨k+1,by omega,by go_num,by rw[<-HU.out];exact OwI.storeI hoI (Ut nq k) k (k:Int),Bc hb (p:=⟨BO,k,none⟩) (by show Y.heap.size<=BO;rw[HBO.out];exact Nat.le_refl _) _⟩,by simp[intOf];omega⟩
  ·obtain rfl:nq=k:=by omega
   have HMN:Hid (Afp nq (upI nq nq)):=Lib.hid (fun z hz=>by
    rw[Ws] at hz;obtain⟨i,hi,rfl⟩:=List.mem_map.1 hz;have:=List.mem_range.1 hi;omega)
   have HSRT:=Lib.hid (show Calls Tryz.prog 36 #[.slice (some ⟨BO,0,none⟩) nq nq,.func (.func 37) #[] #[.pointer (some ⟨B8,0,none⟩)]] wr fun e w'=>e=.returned (.tuple #[])/\OwI w' Y.heap.size (.slice (some ⟨BO,0,none⟩) nq nq) (Iw (Ns S) (upI nq nq) nq)/\Below Y.heap.size Y w' from gp B8 nq S BO nq nq (upI nq nq) Y wr h20 (Ut _ _) HSW.out hb HMN.out hoI)
   go_upto_region 11 with (go_at_call 36;refine HSRT.out.mono ?_;rintro e w2 ⟨rfl,ho2,hb2⟩;rw[HSO.out] at ho2)
   have hK2:=hP1.keep hb2
   have hV2:=(show Bb w2 B8 82 #[.slice AS nq cS] from by
    obtain⟨A',c',h1,-⟩:=HSW.out;have:=h1.keep hb2;have e:=(h1.cell 0).symm.trans v0;simp at e;rw[e.1,e.2] at this;exact this)
   have hS2:=hSY.keep hb2;have hI2:=OwI.insA ho2 HLO.out;have hR2:=hR1.keep hb2;have hoP2:=OwG.keep hoPY hb2;have hbX2:=Ao hbXY hb2;have hZ2:=hZY.keep hb2
   have HRU:=Lib.hid (fun (W:World) (h1:ShS W AS nq S) (h2:InS W (some ⟨BO,0,none⟩) nq O)=>show Calls Tryz.prog 38 #[.agg #[.int .i64 bl,.int .i64 bw,.int .i64 rx,.int .i64 ry],.slice AS nq cS,.slice (some ⟨BO,0,none⟩) nq nq] W (Ab8 W (er,ps)) from by
    rw[<-HRN.out];exact Acs AS (some ⟨BO,0,none⟩) cS nq nq nq ⟨bl,bw,rx,ry⟩ S O W (by omega) h1 h2)
   obtain⟨b0,b1,b2,b3,-⟩:=hK2.cells4;have v2':w2.cell? ⟨B8,0,none⟩=some (.slice AS nq cS):=(hV2.cell 0).trans rfl;clear hoI hb hV hSY hP1 hR1 hoPY hbXY hZY v0 hk;by_cases her:er=0
   ·subst her
    obtain⟨-,-,hpl,hfit⟩:=HOK.out rfl;have hex:=HEX.out rfl;obtain⟨xx,hxx⟩:∃x,(Mo S ps).2=x:=⟨_,rfl⟩
    have HX:=Lib.hid (show Mo S ps=(0,xx) from Prod.ext hex hxx)
    have HBR:=Lib.hid (show Bz s ⟨bl,bw,rx,ry⟩ Z=(0,⟨xx,bw,rx,ry,Z,Cp C ps nq⟩) by
     rw[HBW.out,if_neg (show ¬((0:Int)≠0) by simp),if_neg (by rw[hex];simp),hxx]
     try dsimp only
     rw[show ps.length=nq by rw[hpl];exact HLO.out])
    have hplq:ps.length=nq:=by rw[hpl];exact HLO.out
    have HPLQ:=Lib.hid hplq
    have HSH:=Lib.hid (fun k (hk:k<nq)=>show ∃q:Nat,(pt ps k).sh=q/\q<nq from by
     have h1:=(hfit k (by rw[HLO.out];exact hk)).2
     have h2:=HPM.out _ (mb (show k<O.length by rw[HLO.out];exact hk))
     exact⟨(gi O k).toNat,by omega,by omega⟩)
    clear hpl hfit hex hxx HOK HEX HBW
    go_upto_region 14 with (go_at_call 38;refine(HRU.out _ hS2 hI2).mono ?_;rintro e w3 ⟨v3,rfl,ho3,hb3⟩;dsimp only at ho3 ⊢;have v3':=Aq hb3 v2')
    have hoP3:=OwG.keep hoP2 hb3;have hap:=OwG.apart ho3 hoP3 (by decide)
    obtain⟨Au,cu,rfl,hPu⟩:=OwP.pus ho3;rw[hplq] at hPu hap ⊢;have hS3:=hS2.keep hb3;have hK3:=hK2.keep hb3;have hR3:=hR2.keep hb3;have hbX3:=Ao hbX2 hb3;have hZ3:=hZ2.keep hb3;clear hplq ho3 hoP2 hS2 hK2 hR2 hbX2 hZ2 hb3 b0 b1 b2 b3 v2' hI2 ho2 hV2 hb2
    go_upto_region 18 with (go_at_call 39;refine(dj AS Au cS cu nq nq S ps _ (by omega) hS3 hPu).mono ?_;rintro e w4 ⟨rfl,hb4⟩;rw[HX.out])
    have hoP4:=OwG.keep hoP3 hb4;have hK4:=hK3.keep hb4;have hR4:=hR3.keep hb4;have hbX4:=Ao hbX3 hb4;have hZ4:=hZ3.keep hb4;have hPu4:=hPu.keep hb4;have hneK:=OwG.neB hoP4 hK4 (by decide)
    have hneR:=OwG.neB hoP4 hR4 (by decide)
    have hlo:=fun k hk=>(OwG.lt hoP4 k hk).1
    clear hoP3 hS3 hK3 hR3 hbX3 hZ3 hPu hb4 v3';go_loopw [16,68] (fun _ i wx=>∃k:Nat,k<=nq/\i=.int .i64 k/\R4 wx X.heap.size (.slice AP nq cP) (Cp C ps k)/\w4.grownBy wx (Value.slice AP nq cP).ownBlock) (fun _ i _=>nq-(intOf i).toNat)
    case atStart=>exact⟨0,Nat.zero_le _,rfl,hoP4,World.grownBy.refl _ _⟩
    case round =>
     clear hoP4;obtain⟨k,hk,rfl,hoP,hg⟩:=hrel;have HLL:=Lib.hid (show (Cp C ps k).length=nq by rw[(Cb k).1];exact HCQ.out)
     by_cases hkq:k<nq
     ·rcases OwG.form hoP with ⟨e,-⟩|⟨gP,cap,e,g1,g2,g3,g4⟩
      ·injection e with _ e2 _;omega
      ·injection e with e1 e2 e3
       subst e1 e3;obtain⟨q,ehh,hhq⟩:=HSH.out k hkq;obtain⟨bu,ou,rfl,-,x1,x2,x3,x4,x5⟩:=hPu4.at_ hkq
       have hne:some bu≠(Value.slice (some ⟨gP,0,none⟩) nq cP).ownBlock:=by
        rcases hap with h|h
        ·simp[Value.ownBlock] at h
        ·simpa[Value.ownBlock] using h
       have y1:=Hl hg x1 hne;have y2:=Hl hg x2 hne;have y3:=Hl hg x3 hne;have y4:=Hl hg x4 hne;have y5:=Hl hg x5 hne;have HLT:=Lib.hid (show Cp C ps (k+1)=(Cp C ps k).set (pt ps k).sh.toNat (az (plc (Cp C ps k) (pt ps k).sh.toNat) (pt ps k)) from rfl)
       rw[ehh] at y1 HLT;rw[Int.toNat_natCast] at HLT;obtain⟨L,hL⟩:∃L,Cp C ps k=L:=⟨_,rfl⟩
       rw[hL] at hoP HLT HLL;obtain⟨⟨psh,pfl,pqu,px,py⟩,hp⟩:∃p,pt ps k=p:=⟨_,rfl⟩
       rw[hp] at y2 y3 y4 y5 HLT;dsimp only at y2 y3 y4 y5;have B1:(k:Int)<(nq:Int):=by omega
       have B2:(q:Int)<(nq:Int):=by omega
       clear x1 x2 x3 x4 x5 hL hp ehh e2 g3 g4;go_upto_region 20 with fail;refine Ar (fun V=>Below wr.heap.size wr V/\Bb V wr.heap.size 89 #[.int .i64 (q:Int),.bool pfl,.int .i64 pqu,.int .i64 px,.int .i64 py]) ⟨An (Below.refl _ _) _,Bb.new _ _ _⟩ ?_
       rintro V ⟨hbV,hT⟩;have hoV:=OwG.keep hoP hbV;obtain⟨l0,l1,l2,l3,l4,l5,l6⟩:=R4.cells hoV HLL.out hhq
       have hfz:∀j,V.frozen? ⟨gP,j,none⟩=false:=by
        have h2:=hoV;rw[<-HLL.out] at h2;exact fun j=>OwG.frozen h2 j
       have f4:=hfz (q*7+4);have f5:=hfz (q*7+5);have f6:=hfz (q*7+6);obtain⟨t0,t1,t2,t3,t4⟩:=sh5 hT;have hgV:=Gb.below hg hbV;have hneT:wr.heap.size≠gP:=by omega
       have hneT2:gP≠wr.heap.size:=by omega
       clear y1 y2 y3 y4 y5 hoP hfz;go_wp2_with fail;exact⟨⟨k+1,by omega,by go_num,by rw[HLT.out];exact R4.store3 hoV HLL.out hhq pqu px py,Gb.set (Gb.set (Gb.set hgV _ _) _ _) _ _⟩,by simp[intOf];omega⟩
     ·obtain rfl:nq=k:=by omega
      have hKr:=hK4.grown hg hneK;have hRr:=hR4.grown hg hneR;have hbXr:=Below.grown hbX4 hg hbX4.size hlo;have hbWr:=Ao hbX hbXr;have hZr:=hZ.keep hbWr;obtain⟨-,b1,b2,b3,-⟩:=hKr.cells4;have hbD:=Aw (Below.refl wr.heap.size wr);clear hK4 hR4 hbX4 hZ4 hPu4 hg hneK hneR;go_upto_region 23 with fail;go_cut [17] (fun v17 wx=>∃bm Az cz,v17=.pointer (some ⟨bm,0,none⟩)/\Bb wx bm 38 #[.int .i64 xx,.int .i64 bw,.int .i64 rx,.int .i64 ry,.slice Az n cz,.slice AP nq cP]/\OwI wx wr.heap.size (.slice Az n cz) Z/\n<=cz/\Below wr.heap.size wr wx)
      case first =>
       have HCN:=Lib.hid (fun (W:World) (hW:Below wr.heap.size wr W)=>show Calls Tryz.prog 40 #[.slice A n c] W (fun e W'=>∃Az cz,e=.returned (.slice Az n cz)/\n<=cz/\OwI W' wr.heap.size (.slice Az n cz) Z/\Below wr.heap.size wr W'/\(∀g cs,Bb W g 38 cs->Bb W' g 38 cs)/\True) from
        (dz A c n Z W (by omega) (hZr.keep hW) hnil).mono fun e W' h=>by
         obtain⟨v5,rfl,ho5,hb5⟩:=h;obtain⟨Az,cz,rfl,hcz,hzz,-⟩:=OwI.ins ho5;have hl:=hzz.1;have hl2:Z.length=n:=hZr.1;rw[hl2] at hcz ho5 ⊢;exact⟨Az,cz,rfl,hcz,ho5.lower hW.size,Ao hW hb5,fun g cs h=>h.keep hb5,trivial⟩)
       have KF:∀W',Below wr.heap.size wr W'->(W'.cell? ⟨w.heap.size+1,1,none⟩=some (.int .i64 bw)/\W'.cell? ⟨w.heap.size+1,2,none⟩=some (.int .i64 rx)/\W'.cell? ⟨w.heap.size+1,3,none⟩=some (.int .i64 ry)):=fun W' hb=>by
        obtain⟨-,j1,j2,j3,-⟩:=(hKr.keep hb).cells4;exact⟨j1,j2,j3⟩
       clear hRr hbXr hbWr hlo hap HE HBR HSO HPM HLO HRN HCL HSL HCQ HNQ HSW HBO HMN HSRT HRU HX HPLQ HSH hv hsm HLL hoP lS mS lP mP v1 v2 v4 v5 v7 v8 v10 v11 v13 v14 v16 v17 h20 hRX hlt hk;have ka1:=fun o=>(KF _ (An (Below.refl wr.heap.size wr) o)).1
       have ka2:=fun o=>(KF _ (An (Below.refl wr.heap.size wr) o)).2.1
       have ka3:=fun o=>(KF _ (An (Below.refl wr.heap.size wr) o)).2.2
       go_region_law ((go_simp;go_at_call 40;refine(HCN.out _ (by first|(with_reducible exact hbD)|(with_reducible exact Aw (An (Below.refl _ _) _)))).mono ?_;rintro e w5 ⟨Az,cz,rfl,hcz,ho5,hbC,hkb,-⟩;obtain⟨b1,b2,b3⟩:=KF _ hbC;have kb1:=fun o=>(KF _ (An hbC o)).1;have kb2:=fun o=>(KF _ (An hbC o)).2.1;have kb3:=fun o=>(KF _ (An hbC o)).2.2;try (have kB:Bb w5 wr.heap.size 38 #[.int .i64 0,.int .i64 0,.int .i64 0,.int .i64 0,.slice none 0 0,.slice none 0 0]:=hkb _ _ (by exact Bb.new wr _ _);obtain⟨m0,m1,m2,m3,m4,m5⟩:=mk6 kB;have f0:=kB.frozen 0;have f1:=kB.frozen 1;have f2:=kB.frozen 2;have f3:=kB.frozen 3;have f4:=kB.frozen 4;have f5:=kB.frozen 5)))
       all_goals go_wp2_with fail
       all_goals go_meet
       all_goals first
        | (with_reducible refine⟨w5.heap.size,Az,cz,?_,?_,?_,hcz,An hbC _⟩
           ·rfl
           ·exact Bb.new _ _ _
           ·exact OwG.alloc ho5 _)
        | (with_reducible refine⟨wr.heap.size,Az,cz,?_,?_,?_,hcz,Afe hbC (Nat.le_refl _) _ _ _ _ _ _⟩
           ·rfl
           ·exact(((((kB.set_ 0 _).set_ 1 _).set_ 2 _).set_ 3 _).set_ 4 _).set_ 5 _
           ·have hnb:=Ne.symm (OwG.neB ho5 kB (by decide))
            exact(((((OwG.far ho5 (p:=⟨wr.heap.size,0,none⟩) hnb _).far (p:=⟨wr.heap.size,1,none⟩) hnb _).far (p:=⟨wr.heap.size,2,none⟩) hnb _).far (p:=⟨wr.heap.size,3,none⟩) hnb _).far (p:=⟨wr.heap.size,4,none⟩) hnb _).far (p:=⟨wr.heap.size,5,none⟩) hnb _)
      case rest =>
       obtain⟨bm,Az,cz,rfl,hM,hoZ,hcz,hbC⟩:=hcut;have hRc:=hRr.keep hbC;obtain⟨m0,m1,m2,m3,m4,m5⟩:=mk6 hM;obtain⟨q0,q1,q2,q3,q4,q5⟩:=mk6 hRc;have g0:=hRc.frozen 0;have g1:=hRc.frozen 1;have g2:=hRc.frozen 2;have g3:=hRc.frozen 3;have g4:=hRc.frozen 4;have g5:=hRc.frozen 5;have hbZ:=Ao hbWr hbC;have hoPc:=OwG.keep hoP hbC;have hXr:X.heap.size<=wr.heap.size:=hbXr.size
       have hap0:AP=none->cP=0:=fun h=>by
        rcases OwG.form hoPc with ⟨e,-⟩|⟨g,cap,e,-⟩
        ·injection e
        ·injection e with e1;rw[h] at e1;cases e1
       have hczm:cz<=9223372036854775807:=by
        obtain⟨A',c',e,-,h2,-⟩:=OwG.form2 hoZ;injection e with _ _ e3
        rw[e3];unfold maxLen at h2;exact h2
       clear hKr hRr b1 b2 b3 hbD;go_wp2_with fail;obtain⟨s0,s1,s2,s3,s4,s5⟩:=mk6 ((((((hRc.set_ 0 (.int .i64 xx)).set_ 1 (.int .i64 bw)).set_ 2 (.int .i64 rx)).set_ 3 (.int .i64 ry)).set_ 4 (.slice Az n cz)).set_ 5 (.slice AP nq cP));refine bodyPost_ret (v:=.tuple #[.agg #[.int .i64 xx,.int .i64 bw,.int .i64 rx,.int .i64 ry,.slice Az n cz,.slice AP nq cP],.int .i64 0]) (by simp[results,Tryz.results22,go_sem,s0,s1,s2,s3,s4,s5]) rfl ?_
       rw[HBR.out];have hzl:Z.length=n:=hZ.1;have hpl:(Cp C ps nq).length=nq:=HLL.out
       have hh6:∀k,X.heap.size<=k->((((((wc.setCell ⟨w.heap.size+1+1,0,none⟩ (.int .i64 xx)).setCell ⟨w.heap.size+1+1,1,none⟩ (.int .i64 bw)).setCell ⟨w.heap.size+1+1,2,none⟩ (.int .i64 rx)).setCell ⟨w.heap.size+1+1,3,none⟩ (.int .i64 ry)).setCell ⟨w.heap.size+1+1,4,none⟩ (.slice Az n cz)).setCell ⟨w.heap.size+1+1,5,none⟩ (.slice AP nq cP)).heap[k]? = wc.heap[k]? := fun k hk=>by
        have hkB:k≠w.heap.size+1+1:=by omega
        exact(Dq _ _ _ _ hkB).trans ((Dq _ _ _ _ hkB).trans ((Dq _ _ _ _ hkB).trans ((Dq _ _ _ _ hkB).trans ((Dq _ _ _ _ hkB).trans (Dq _ _ _ _ hkB)))))
       have hXw:=hbX.size;refine⟨_,rfl,fun W' hW'=>?_,Afe hbZ (by omega) _ _ _ _ _ _⟩
       have hk7:∀k,X.heap.size<=k->k<wc.heap.size->W'.heap[k]? = wc.heap[k]? := fun k hk hk2=>(hW' k (by omega) (by simpa[World.setCell] using hk2)).trans (hh6 k hk)
       refine⟨Az,cz,AP,cP,?_,⟨?_,hczm,?_⟩,?_,mP,hap0,?_⟩
       ·dsimp only;rw[hzl,hpl]
       ·dsimp only;rw[hzl];exact hcz
       ·dsimp only;rw[hzl];exact OwI.insA (hoZ.keepAbove fun k hk hk2=>hk7 k (by omega) hk2) hzl
       ·dsimp only;rw[hpl];exact lP
       ·dsimp only;rw[hpl];exact R4.plsA (hoPc.keepAbove fun k hk hk2=>hk7 k hk hk2) hpl
   ·have hne:(er != 0)=true:=by simpa using her
    have HB3:=Lib.hid (show Bz s ⟨bl,bw,rx,ry⟩ Z=(er,Na) by rw[HBW.out,if_pos her])
    clear her HBW
    go_upto_region 13 with (go_at_call 38;refine(HRU.out _ hS2 hI2).mono ?_;rintro e w3 ⟨v3,rfl,ho3,hb3⟩)
    have hR3:=hR2.keep hb3;obtain⟨q0,q1,q2,q3,q4,q5⟩:=mk6 hR3;have g0:=hR3.frozen 0;have g1:=hR3.frozen 1;have g2:=hR3.frozen 2;have g3:=hR3.frozen 3;have g4:=hR3.frozen 4;have g5:=hR3.frozen 5;have hbZ:=Ao hbX (Ao hbX2 hb3);clear hK2 hS2 hI2 hR2 hoP2 hbX2 hZ2 b0 b1 b2 b3 v2';go_wp2_with fail;obtain⟨s0,s1,s2,s3,s4,s5⟩:=mk6 ((((((hR3.set_ 0 (.int .i64 0)).set_ 1 (.int .i64 0)).set_ 2 (.int .i64 0)).set_ 3 (.int .i64 0)).set_ 4 (.slice none 0 0)).set_ 5 (.slice none 0 0));refine bodyPost_ret (v:=.tuple #[.agg tu,.int .i64 er]) (by simp[results,Tryz.results22,go_sem,s0,s1,s2,s3,s4,s5,tu]) rfl ?_
    rw[HB3.out];exact⟨tu,rfl,fun W' _=>fe W',Afe hbZ (by omega) _ _ _ _ _ _⟩
theorem K7 (vs:Array Value) (s:StyleP) (b:Bed4) (A:Option Addr) (n c:Nat) (Z:List Int) (w:World) (hn:n<=c) (hcc:c<=9223372036854775807) (hnil:A=none->c=0) (hZ:InS w A n Z) (hsm:SmS s) (hv:StV w vs s) (h20:(Bd s Z).1=0->(Bd s Z).2.1.length<20) :
 Calls Tryz.prog 22 #[.agg vs,Hz b,.slice A n c] w (Ae9 w (Bz s b Z)):=by
 by_cases h:(Bd s Z).1=0
 ·exact Al9 vs s b A n c Z w hn hcc hnil hZ hsm hv h (h20 h)
 ·rw[show Bz s b Z=((Bd s Z).1,Na) by unfold Bz;rw[if_pos h]]
  exact Ama vs s b A n c Z w hn hcc hZ hsm hv h
theorem PuS.take {w:World} {A:Option Addr} {n:Nat} {l:List Pt5} (h:PuS w A n l) {i:Nat} (hi:i<=n):PuS w A i (l.take i):=by
 refine⟨by rw[List.length_take,h.1];omega,?_⟩
 obtain⟨h1,h⟩:=h;rcases h with rfl|⟨b,off,rfl,h⟩
 ·exact .inl (by omega)
 ·refine .inr ⟨b,off,rfl,fun k hk=>?_⟩
  rw[U6 hk];exact h k (by omega)
def ez (b:Bed4) (S:List Shp) (ps:List Pt5) (k:Nat):Int:=Gk (fun i=>Dm b S (ps.take i) (pt ps i)) k
theorem qm (b:Bed4) (S:List Shp) (ps:List Pt5) (k:Nat):ez b S ps (k+1)=if ez b S ps k≠0 then ez b S ps k else Dm b S (ps.take k) (pt ps k):=by
 unfold ez;rw[Gk];simp only[ite_not]
theorem zn {b:Bed4} {S:List Shp} {ps:List Pt5} {k:Nat} {x:Int} (h:ez b S ps k=x) (hx:x≠0) (m:Nat):ez b S ps (k+m)=x:=by
 unfold ez at h ⊢;rw[Tv (by rw[h];exact hx),h]
theorem qp (A1 A2:Option Addr) (c1 c2 n1 n2:Nat) (b:Bed4) (S:List Shp) (ps:List Pt5) (w:World) (hn2:n2<=9223372036854775807) (hc2:n2<=c2) (hm2:c2<=9223372036854775807) (hS:ShS w A1 n1 S) (hPu:PuS w A2 n2 ps) :
 Calls Tryz.prog 46 #[Hz b,.slice A1 n1 c1,.slice A2 n2 c2] w fun e w'=>e=.returned (.int .i64 (Ic b S ps))/\Below w.heap.size w w':=by
 have hB:=Lib.hid (Bb.new w 33 #[.int .i64 b.len,.int .i64 b.wid,.int .i64 b.rx,.int .i64 b.ry]);have hbw:=Lib.hid (show Below w.heap.size w (w.alloc (.cells #[.int .i64 b.len,.int .i64 b.wid,.int .i64 b.rx,.int .i64 b.ry] 33)) from (An (Below.refl _ _) _))
 obtain⟨len,wid,rx,ry⟩:=b;unfold Hz;dsimp only at hB hbw ⊢;have hl:=hPu.1;by_cases h60:60<n2
 ·have HR:=Lib.hid (show Ic ⟨len,wid,rx,ry⟩ S ps=5 by unfold Ic;rw[hl,if_pos h60])
  clear hl;go_enter Tryz.func46,Tryz.ntmps46;go_wp2_with fail;go_ret;exact⟨Bh HR.out.symm,hbw.out⟩
 ·have HR:=Lib.hid (show Ic ⟨len,wid,rx,ry⟩ S ps=ez ⟨len,wid,rx,ry⟩ S ps n2 by unfold Ic ez;rw[hl,if_neg h60])
  clear hl;go_enter Tryz.func46,Tryz.ntmps46;go_wp2_with fail;refine Cw (fun X=>Below w.heap.size w X/\Bb X w.heap.size 33 #[.int .i64 len,.int .i64 wid,.int .i64 rx,.int .i64 ry]) ⟨hbw.out,hB.out⟩ ?_
  clear hbw hB;rintro X ⟨hbw,hB⟩;have hSX:=hS.keep hbw;have hPX:=hPu.keep hbw;have HB:=Lib.hid hB;clear hS hPu hB;go_loopw [15] (fun i wr=>∃k:Nat,k<=n2/\i=.int .i64 k/\Hid (ez ⟨len,wid,rx,ry⟩ S ps k=0)/\Below X.heap.size X wr) (fun i _=>n2-(intOf i).toNat)
  case atStart=>exact⟨0,Nat.zero_le _,rfl,Lib.hid rfl,Below.refl _ _⟩
  case round =>
   obtain⟨k,hk,rfl,hz,hb⟩:=hrel;by_cases hlt:k<n2
   ·have i2:(k:Int)<=(c2:Int):=by omega
    have i3:(k:Int)<=(n2:Int):=by omega
    obtain⟨b1,o1,rfl,-,c1,c2,c3,c4,c5⟩:=(hPX.keep hb).at_ hlt;have hstep:=Lib.hid (show ez ⟨len,wid,rx,ry⟩ S ps (k+1)=Dm ⟨len,wid,rx,ry⟩ S (ps.take k) (pt ps k) by rw[qm,if_neg (by rw[hz.out];simp)])
    obtain⟨p,hp⟩:∃p,pt ps k=p:=⟨_,rfl⟩
    rw[hp] at c1 c2 c3 c4 c5 hstep;clear hp;obtain⟨p1,p2,p3,p4,p5⟩:=p;dsimp only at c1 c2 c3 c4 c5;obtain⟨fv,hfv⟩:∃fv,Dm ⟨len,wid,rx,ry⟩ S (ps.take k) ⟨p1,p2,p3,p4,p5⟩=fv:=⟨_,rfl⟩
    rw[hfv] at hstep;have HFV:=Lib.hid hfv;clear hfv;have hB1:=Lib.hid (Bb.new wr 89 #[.int .i64 p1,.bool p2,.int .i64 p3,.int .i64 p4,.int .i64 p5]);have hb1:=Lib.hid (An (Below.refl _ wr) (.cells #[.int .i64 p1,.bool p2,.int .i64 p3,.int .i64 p4,.int .i64 p5] 89));have i1:(0:Int)<=(k:Int):=by omega
    go_upto_region 6 with fail;refine Cw (fun Y=>Below wr.heap.size wr Y/\Bb Y wr.heap.size 89 #[.int .i64 p1,.bool p2,.int .i64 p3,.int .i64 p4,.int .i64 p5]) ⟨hb1.out,hB1.out⟩ ?_
    clear hb1 hB1 c1 c2 c3 c4 c5;rintro Y ⟨hbY,hBY⟩;obtain⟨e1,e2,e3,e4,e5,-⟩:=hBY.cells5;obtain⟨d1,d2,d3,d4,d5⟩:=(HB.out.keep (Ao hb hbY)).cells4;have hbXY:=Ao hb hbY;have hSY:=hSX.keep hbXY;have hPY:=(hPX.keep hbXY).take hk;go_cut [9] (fun v9 wx=>v9=.int .i64 fv/\Below Y.heap.size Y wx)
    case first =>
     go_region_held3 (fun w'=>w'.cell? ⟨w.heap.size,0,none⟩=some (.int .i64 len)/\w'.cell? ⟨w.heap.size,1,none⟩=some (.int .i64 wid)/\w'.cell? ⟨w.heap.size,2,none⟩=some (.int .i64 rx)/\w'.cell? ⟨w.heap.size,3,none⟩=some (.int .i64 ry)/\w'.cell? ⟨wr.heap.size,0,none⟩=some (.int .i64 p1)/\w'.cell? ⟨wr.heap.size,1,none⟩=some (.bool p2)/\w'.cell? ⟨wr.heap.size,2,none⟩=some (.int .i64 p3)/\w'.cell? ⟨wr.heap.size,3,none⟩=some (.int .i64 p4)/\w'.cell? ⟨wr.heap.size,4,none⟩=some (.int .i64 p5))
      (first
       | go_keep
       | exact⟨Aq hb5 d1,Aq hb5 d2,Aq hb5 d3,Aq hb5 d4,Aq hb5 e1,Aq hb5 e2,Aq hb5 e3,Aq hb5 e4,Aq hb5 e5⟩)
      ((first
        | (go_at_call 69;refine(Rh _ _ _ _ _ _ ⟨len,wid,rx,ry⟩ S (ps.take k) ⟨p1,p2,p3,p4,p5⟩ _ (by omega) (hSY.keep (Aw (Below.refl _ _))) (hPY.keep (Aw (Below.refl _ _)))).mono ?_;rintro e w5 ⟨rfl,hb5⟩;rw[HFV.out])))
     all_goals go_wp2_with fail
     all_goals go_meet
     all_goals exact⟨rfl,Ao (Aw (Below.refl _ _)) hb5⟩
    case rest =>
     clear d1 d2 d3 d4 d5 e1 e2 e3 e4 e5;obtain⟨rfl,hbc⟩:=hcut;by_cases hf0:fv=0
     ·subst hf0
      go_wp2_with fail;exact⟨⟨k+1,by omega,by go_num,Lib.hid hstep.out,Ao hbXY hbc⟩,by simp[intOf];omega⟩
     ·have qf:(fv != 0)=true:=by simpa using hf0
      have HBAD:=Lib.hid (show ez ⟨len,wid,rx,ry⟩ S ps n2=fv by have:=zn hstep.out hf0 (n2-(k+1));rwa [show k+1+(n2-(k+1))=n2 by omega] at this)
      clear hf0;go_wp2_with fail;go_ret;exact⟨Bh (by rw[HR.out,HBAD.out]),Ao hbw (Ao hbXY hbc)⟩
   ·obtain rfl:n2=k:=by omega
    go_wp2_with fail;go_ret;exact⟨Bh (by rw[HR.out,hz.out]),Ao hbw hb⟩
end Go.Proofs.YtpbchbcdgikonaaGreat
