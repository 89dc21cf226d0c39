/- Several small texts in one. No condition of its own: each part says its own. -/
import Derived.Test.YtemkbjaojinaoaaGreatShort
import Derived.Test.YtemkbjaojinaoaaGreatBagH
import Derived.Test.YtemkbjaojinaoaaGreatBagSo2
import Derived.Test.YtemkbjaojinaoaaGreatBagM1
set_option linter.unusedVariables false
set_option linter.unusedSimpArgs false
set_option maxRecDepth 100000
set_option maxHeartbeats 8000000
namespace Go.Proofs.YtemkbjaojinaoaaGreat
open Go.RowKit
def rsaveL (ds:List M.Wd) (hs:List Nat):List Value:=(ds.zip hs).flatMap λp=>[.map (some p.2),.int .i64 p.1.things.next,.int .i64 p.1.fall,.int .i64 p.1.wide,.int .i64 p.1.high]
abbrev refC (b:Nat) (sv:Value) (G:M.Game):Array Value:=#[.map (some b),.int .i64 G.w.things.next,.int .i64 G.w.fall,.int .i64 G.w.wide,.int .i64 G.w.high,sv,.int .i64 G.acts]
structure RefAt (w:World) (R:Nat->Prop) (g:Nat) (G:M.Game) (b:Nat) (sv:Value) (hs:List Nat):Prop where
 blk:Blk w g 58 (refC b sv G)
 inR:R g
 map:InG R g sv b/\MapA w b (M.at_ G.w.things) (M.size G.w.things)
 own:w.ownsRow 0 46 5 sv G.saves.length (rsaveL G.saves hs)
 len:hs.length=G.saves.length
 ov:∀x,sv.ownBlock=some x->R x/\x≠g
 each:∀(i:Nat) d x,G.saves[i]?=some d->hs[i]?=some x->InG R g sv x/\MapA w x (M.at_ d.things) (M.size d.things)
section
variable {w W:World} {Q R:Nat->Prop} {g:Nat} {G G':M.Game} {b:Nat} {sv:Value} {hs:List Nat}
theorem RefAt.keep (h:RefAt w R g G b sv hs) (hb:∀x,x<w.heap.size->R x->W.heap[x]?=w.heap[x]?):RefAt W R g G b sv hs:=
 ⟨(hb g h.blk.lt h.inR).trans h.blk,h.inR,⟨h.map.1,h.map.2.block (hb b h.map.2.lt h.map.1.1)⟩,own_same h.own (λx e=>hb x (h.own.lt x e).2 (h.ov x e).1),h.len,h.ov,
 λi d x h1 h2=>by obtain ⟨k1,k2⟩:=h.each i d x h1 h2;exact ⟨k1,k2.block (hb x k2.lt k1.1)⟩⟩
theorem RefAt.below (h:RefAt w R g G b sv hs) (hb:Below w.heap.size w W):RefAt W R g G b sv hs:=h.keep (λx h1 _=>hb.block x h1)
theorem RefAt.only (h:RefAt w R g G b sv hs) (ho:Only Q w W) (hd:∀x,R x->¬Q x):RefAt W R g G b sv hs:=h.keep (λx h1 q=>ho.block x h1 (hd x q))
theorem RefAt.wide (h:RefAt w R g G b sv hs) (hq:∀x,x<w.heap.size->R x->Q x):RefAt w Q g G b sv hs:=
 ⟨h.blk,hq g h.blk.lt h.inR,⟨⟨hq b h.map.2.lt h.map.1.1,h.map.1.2⟩,h.map.2⟩,h.own,h.len,λx e=>⟨hq x (h.own.lt x e).2 (h.ov x e).1,(h.ov x e).2⟩,
 λi d x h1 h2=>by obtain ⟨k1,k2⟩:=h.each i d x h1 h2;exact ⟨⟨hq x k2.lt k1.1,k1.2⟩,k2⟩⟩
theorem RefAt.upd (h:RefAt w R g G b sv hs) (hb:∀x,x<w.heap.size->R x->x≠g->W.heap[x]?=w.heap[x]?) {b':Nat}
  (blk:Blk W g 58 (refC b' sv G')) (hsv:G'.saves=G.saves) (hR:InG R g sv b') (hm:MapA W b' (M.at_ G'.w.things) (M.size G'.w.things)):RefAt W R g G' b' sv hs:=
 ⟨blk,h.inR,⟨hR,hm⟩,by rw [hsv];exact own_same h.own (λx e=>hb x (h.own.lt x e).2 (h.ov x e).1 (h.ov x e).2),by rw [hsv];exact h.len,h.ov,
 λi d x h1 h2=>by rw [hsv] at h1;obtain ⟨k1,k2⟩:=h.each i d x h1 h2;exact ⟨k1,k2.block (hb x k2.lt k1.1 k1.2.1)⟩⟩
theorem RefAt.newG (h:RefAt w R g G b sv hs) (hq:∀x,w.heap.size<=x->R x):∀x,w.heap.size<=x->InG R g sv x:=by
 intro x hx
 have k:=h.blk.lt
 exact ⟨hq x hx,by omega,λe=>by have:=(h.own.lt x e).2;omega⟩
end
def RefPost (R:Nat->Prop) (w:World) (g:Nat) (G':M.Game) (r:M.Reply) (e:Ending) (w':World):Prop:=
 ∃(b:Nat) (sv:Value) (hs:List Nat) (ids met:Value),e=.returned (replyV r ids met)/\RefAt w' (λx=>R x\/w.heap.size<=x) g G' b sv hs/\Only R w w'/\
  IntsAt w' 0 ids r.ids/\PairsAt w' 0 met r.met
theorem rno_calls (e:Int) (w:World):
  Calls Tryz.prog 26 #[.int .i64 e] w λr w'=>r=.returned (.agg #[.int .i64 e,.int .i64 0,.slice none 0 0,.slice none 0 0])/\Below w.heap.size w w':=by
 go_enter Tryz.func26,Tryz.ntmps26
 go_wp2
 refine bodyPost_ret (results_cell_row rfl _ _ _ _ _ _ _ rfl (heap_alloc_new w _) Tryz.underlying35 rfl kR) rfl ⟨rfl,bel9⟩
theorem M.goodW_new (wide high fall:Int):M.goodW ⟨⟨[],0⟩,fall,wide,high⟩=(M.inB wide 1 1048576 && (M.inB high 1 1048576 && M.inB fall (-64) 64)):=by
 unfold M.goodW M.inB
 rw [show M.good ⟨[],0⟩=true by decide]
 simp only [Bool.true_and,Bool.decide_and]
 cases decide (-64<=fall)<;>cases decide (fall<=64)<;>simp
theorem rnew_calls (wide high fall:Int) (w:World) (hg:M.goodW ⟨⟨[],0⟩,fall,wide,high⟩=true):
  Calls Tryz.prog 6 #[.int .i64 wide,.int .i64 high,.int .i64 fall] w λe w'=>∃g b,e=.returned (.tuple #[.pointer (some ⟨g,0,none⟩),.int .i64 0])/\RefAt w' (λx=>w.heap.size<=x/\x<w'.heap.size) g ⟨⟨⟨[],0⟩,fall,wide,high⟩,[],0⟩ b (.slice none 0 0) []/\Below w.heap.size w w':=by
 rw [M.goodW_new] at hg
 simp only [Bool.and_eq_true] at hg
 obtain ⟨h1,h2,h3⟩:=hg
 have HB:=hI (λn lo hi W=>inB_calls n lo hi W)
 have H1:=hI h1
 have H2:=hI h2
 have H3:=hI h3
 clear h1 h2 h3
 have hmm:=@run_makeMap Tryz.prog
 go_enter Tryz.func6,Tryz.ntmps6
 go_wp2_with (go_at_call 16;go_loud (refine (HB.out _ _ _ _).mono ?_;rintro e w' ⟨rfl,rfl⟩;(first|rw [H1.out]|rw [H2.out]|rw [H3.out])))
 go_ret2
 refine ⟨_,w.heap.size,rfl,⟨Blk.new_at sS,⟨sS,sS⟩,⟨⟨⟨Nat.le_refl _,sO⟩,sS,(λe=>by cases e)⟩,?_⟩,World.ownsRow_nil _ _ _ _,rfl,(λx e=>by cases e),λi d x h1 _=>by cases h1⟩,bel9⟩
 exact (MapAt.made Tryz.prog 3 w).alloc _
theorem rnewBad_calls (wide high fall:Int) (w:World) (hg:M.goodW ⟨⟨[],0⟩,fall,wide,high⟩=false):
  Calls Tryz.prog 6 #[.int .i64 wide,.int .i64 high,.int .i64 fall] w λe w'=>e=.returned (.tuple #[.pointer none,.int .i64 2])/\Below w.heap.size w w':=by
 rw [M.goodW_new] at hg
 have HB:=hI (λn lo hi W=>inB_calls n lo hi W)
 obtain ⟨b1,h1⟩:∃b,M.inB wide 1 1048576=b:=⟨_,rfl⟩
 obtain ⟨b2,h2⟩:∃b,M.inB high 1 1048576=b:=⟨_,rfl⟩
 obtain ⟨b3,h3⟩:∃b,M.inB fall (-64) 64=b:=⟨_,rfl⟩
 rw [h1,h2,h3] at hg
 have H1:=hI h1
 have H2:=hI h2
 have H3:=hI h3
 clear h1 h2 h3
 cases b1<;>cases b2<;>cases b3
 all_goals
  first
  |(simp at hg;done)
  |(go_enter Tryz.func6,Tryz.ntmps6;go_wp2_with (go_at_call 16;go_loud (refine (HB.out _ _ _ _).mono ?_;rintro e w' ⟨rfl,rfl⟩;(first|rw [H1.out]|rw [H2.out]|rw [H3.out])));go_ret2;exact ⟨rfl,Below.refl _ _⟩)
theorem newBad_calls (wide high fall:Int) (w:World) (hg:M.goodW ⟨⟨[],0⟩,fall,wide,high⟩=false):
  Calls Tryz.prog 5 #[.int .i64 wide,.int .i64 high,.int .i64 fall] w λe w'=>e=.returned (.tuple #[.pointer none,.int .i64 2])/\Below w.heap.size w w':=by
 have HG:=hI (λU=>goodWorld_calls (w:=U) (vt:=.slice none 0 0) (d:=⟨⟨[],0⟩,fall,wide,high⟩) (nil_store U 0) nil_in)
 rw [hg] at HG
 clear hg
 go_enter Tryz.func5,Tryz.ntmps5
 go_wp2_with (go_at_call 15;go_loud (refine (HG.out _).mono ?_;rintro e w1 ⟨rfl,hb1⟩;have K1:Below w.heap.size w w1:=(show Below w.heap.size w _ from bel9).trans (hb1.mono sid9)))
 go_ret2
 exact ⟨rfl,K1⟩
def fr406 (f:Nat->Value):Array Value:=#[f 0,f 1,f 2,f 3,f 4,f 5,f 6,f 7,f 8,f 9,f 10,f 11,f 12,f 13,f 14,f 15,f 16,f 17,f 18,f 19,f 20,f 21,f 22,f 23,f 24,f 25,f 26,f 27,f 28,f 29,f 30,f 31,f 32,f 33,f 34,f 35,f 36,f 37,f 38,f 39,f 40,f 41,f 42,f 43,f 44,f 45,f 46,f 47,f 48,f 49,f 50,f 51,f 52,f 53,f 54,f 55,f 56,f 57,f 58,f 59,f 60,f 61,f 62,f 63,f 64,f 65,f 66,f 67,f 68,f 69,f 70,f 71,f 72,f 73,f 74,f 75,f 76,f 77,f 78,f 79,f 80,f 81,f 82,f 83,f 84,f 85,f 86,f 87,f 88,f 89,f 90,f 91,f 92,f 93,f 94,f 95,f 96,f 97,f 98,f 99,f 100,f 101,f 102,f 103,f 104,f 105,f 106,f 107,f 108,f 109,f 110,f 111,f 112,f 113,f 114,f 115,f 116,f 117,f 118,f 119,f 120,f 121,f 122,f 123,f 124,f 125,f 126,f 127,f 128,f 129,f 130,f 131,f 132,f 133,f 134,f 135,f 136,f 137,f 138,f 139,f 140,f 141,f 142,f 143,f 144,f 145,f 146,f 147,f 148,f 149,f 150,f 151,f 152,f 153,f 154,f 155,f 156,f 157,f 158,f 159,f 160,f 161,f 162,f 163,f 164,f 165,f 166,f 167,f 168,f 169,f 170,f 171,f 172,f 173,f 174,f 175,f 176,f 177,f 178,f 179,f 180,f 181,f 182,f 183,f 184,f 185,f 186,f 187,f 188,f 189,f 190,f 191,f 192,f 193,f 194,f 195,f 196,f 197,f 198,f 199,f 200,f 201,f 202,f 203,f 204,f 205,f 206,f 207,f 208,f 209,f 210,f 211,f 212,f 213,f 214,f 215,f 216,f 217,f 218,f 219,f 220,f 221,f 222,f 223,f 224,f 225,f 226,f 227,f 228,f 229,f 230,f 231,f 232,f 233,f 234,f 235,f 236,f 237,f 238,f 239,f 240,f 241,f 242,f 243,f 244,f 245,f 246,f 247,f 248,f 249,f 250,f 251,f 252,f 253,f 254,f 255,f 256,f 257,f 258,f 259,f 260,f 261,f 262,f 263,f 264,f 265,f 266,f 267,f 268,f 269,f 270,f 271,f 272,f 273,f 274,f 275,f 276,f 277,f 278,f 279,f 280,f 281,f 282,f 283,f 284,f 285,f 286,f 287,f 288,f 289,f 290,f 291,f 292,f 293,f 294,f 295,f 296,f 297,f 298,f 299,f 300,f 301,f 302,f 303,f 304,f 305,f 306,f 307,f 308,f 309,f 310,f 311,f 312,f 313,f 314,f 315,f 316,f 317,f 318,f 319,f 320,f 321,f 322,f 323,f 324,f 325,f 326,f 327,f 328,f 329,f 330,f 331,f 332,f 333,f 334,f 335,f 336,f 337,f 338,f 339,f 340,f 341,f 342,f 343,f 344,f 345,f 346,f 347,f 348,f 349,f 350,f 351,f 352,f 353,f 354,f 355,f 356,f 357,f 358,f 359,f 360,f 361,f 362,f 363,f 364,f 365,f 366,f 367,f 368,f 369,f 370,f 371,f 372,f 373,f 374,f 375,f 376,f 377,f 378,f 379,f 380,f 381,f 382,f 383,f 384,f 385,f 386,f 387,f 388,f 389,f 390,f 391,f 392,f 393,f 394,f 395,f 396,f 397,f 398,f 399,f 400,f 401,f 402,f 403,f 404,f 405]
theorem fr406_of {A:Array Value} (hz:A.size=406):A=fr406 (λi=>A.getD i undef):=by
 have h:∀i,i<406->(fr406 (λi=>A.getD i undef))[i]?=some (A.getD i undef):=by
  have e:fr406 (λi=>A.getD i undef)=((List.range 406).map λi=>A.getD i undef).toArray:=by kernel_rfl
  intro i hi
  rw [e]
  simp [hi]
 have hs:(fr406 (λi=>A.getD i undef)).size=406:=by kernel_rfl
 apply Array.ext_getElem?
 intro i
 by_cases hi:i<406
 ·rw [h i hi];simp [Array.getD,hz,hi]
 ·rw [Array.getElem?_eq_none bO,Array.getElem?_eq_none bO]
theorem next_frame {P:Act->World->Prop} {A:Array Value} {L:List (Nat×Value)} {w:World} (hz:A.size=406) (S:List Nat) (hS:(S.all λs=>L.all λp=>p.1 !=s)=true) (h:∀f:Nat->Value,(∀s∈S,f s=A.getD s undef)->P ⟨fr406 f,[]⟩ w):P ⟨DG.setQ A L,[]⟩ w:=by
 have hz2:(DG.setQ A L).size=406:=(DG.setQ_size A L).trans hz
 rw [fr406_of hz2]
 refine h _ (λs hs=>?_)
 have h1:=List.all_eq_true.1 hS s hs
 clear hz2 h hS hz
 induction L generalizing A with
 |nil=>rfl
 |cons p L ih=>
  simp only [List.all_cons,Bool.and_eq_true,bne_iff_ne,ne_eq] at h1
  show (DG.setQ (A.setIfInBounds p.1 p.2) L).getD s undef=_
  rw [ih h1.2]
  simp only [Array.getD_eq_getD_getElem?,Array.getElem?_setIfInBounds]
  rw [if_neg h1.1]
noncomputable def rdoC (n:Nat):Code:=dropC n (Tryz.f10.body.getD .skip)
structure RdoAt (R:Nat->Prop) (w:World) (g:Nat) (G:M.Game) (b:Nat) (sv:Value) (hs:List Nat) (x:M.Act) (gt:Nat) (W:World):Prop where
 ref:RefAt W R g (more G) b sv hs
 act:Blk W w.heap.size 42 (actC x)
 rep:Blk W (w.heap.size+1) 35 #[.int .i64 0,.int .i64 0,.slice none 0 0,.slice none 0 0]
 th:Blk W gt 83 (thC (((M.at_ G.w.things) x.id).getD M.th0))
 only:Only R w W
 gap:w.heap.size+1<gt
structure RdoF (f:Nat->Value) (w:World) (g:Nat) (G:M.Game) (x:M.Act) (gt:Nat):Prop where
 f0:f 0=.pointer (some ⟨g,0,none⟩)
 f3:f 3=.pointer (some ⟨w.heap.size,0,none⟩)
 f4:f 4=.pointer (some ⟨w.heap.size+1,0,none⟩)
 f5:f 5=.func (.func 26) #[] #[]
 f6:f 6=.pointer (some ⟨gt,0,none⟩)
 f7:f 7=.bool ((M.at_ G.w.things) x.id).isSome
theorem wp_frame9 {P:Program} {c:Code} {Q:Exit->Act->World->Prop} {a:Act} {w:World} (h:∀A,A=a->c.wp P Q A w):c.wp P Q a w:=h a rfl
theorem rdo_begin {w:World} {R:Nat->Prop} {g:Nat} {G:M.Game} {b:Nat} {sv:Value} {hs:List Nat} (h:RefAt w R g G b sv hs) (x:M.Act) (hx:I64 x.id) (h0:0<=G.acts) (hlt:G.acts<150) {P:Ending->World->Prop}
  (H:∀(f:Nat->Value) (gt:Nat) (W:World),RdoF f w g G x gt->RdoAt R w g G b sv hs x gt W->Code.wp Tryz.prog (rdoC 5) (bodyPost Tryz.prog Tryz.f10 P) ⟨fr406 f,[]⟩ W):
  Calls Tryz.prog 10 #[.pointer (some ⟨g,0,none⟩),actV x] w P:=by
 have g6:=h.blk.cell 6
 have gf:=λi=>h.blk.free i
 have lg:=h.blk.lt
 simp at g6
 have nl1:¬g=w.heap.size:=by omega
 have nl2:¬w.heap.size=g:=by omega
 have nl3:¬g=w.heap.size+1:=by omega
 have nl4:¬w.heap.size+1=g:=by omega
 have HG0:=hI h
 have HH:=hI H
 clear h H
 go_enter Tryz.func10,Tryz.ntmps10
 go_upto_region 5 with (fail)
 refine wp_called (λW2 hW2=>?_)
 have b3:Blk W2 (w.heap.size) 42 (actC x):=by
  rw [hW2]
  exact (Blk.new_at (by simp [World.setCell])).alloc _
 have b4:Blk W2 (w.heap.size+1) 35 (#[.int .i64 0,.int .i64 0,.slice none 0 0,.slice none 0 0]):=by
  rw [hW2]
  exact Blk.new_at (by simp [World.setCell])
 have hr2:RefAt W2 R g (more G) b sv hs:=HG0.out.upd (G':=more G) (λy h1 h2 h3=>by rw [hW2];exact (Below.heap_alloc _ _ _ sW).trans ((Below.heap_alloc _ _ _ sW).trans (bS _ _ _ _ h3))) (by rw [hW2];exact blk_to (((HG0.out.blk.put 6 _).alloc _).alloc _) (by rfl)) rfl HG0.out.map.1 (by rw [hW2];exact ((HG0.out.map.2.far HG0.out.map.1.2.1 _).alloc _).alloc _)
 have ho2:Only R w W2:=by rw [hW2];exact ((((Only.refl R w).setCell (.inl HG0.out.inR) _).alloc _).alloc _)
 have HM2:=hI hr2.map.2
 have HR2:=hI hr2
 have HO2:=hI ho2
 have HB3:=hI b3
 have HB4:=hI b4
 have g0:=hr2.blk.cell 0
 have x1:=b3.cell 1
 simp at g0 x1
 have lx:=b3.lt
 have lx4:=b4.lt
 have lg2:=hr2.blk.lt
 clear hW2 hr2 ho2 b3 b4 gf g6
 have hl0:=MapAt.look HM2.out.drew Tryz.underlying3 Tryz.underlying44 (th_zero _) hx
 have hl1:=λo=>MapAt.look (HM2.out.alloc o).drew Tryz.underlying3 Tryz.underlying44 (th_zero _) hx
 obtain ⟨ty,hty⟩:∃t,((M.at_ G.w.things) x.id).getD M.th0=t:=⟨_,rfl⟩
 obtain ⟨is,his⟩:∃t,((M.at_ G.w.things) x.id).isSome=t:=⟨_,rfl⟩
 have HTY:=hI hty
 have HIS:=hI his
 rw [show (M.at_ (more G).w.things x.id).getD M.th0=ty from hty,show (M.at_ (more G).w.things x.id).isSome=is from his] at hl0
 simp only [show (M.at_ (more G).w.things x.id).getD M.th0=ty from hty,show (M.at_ (more G).w.things x.id).isSome=is from his] at hl1
 clear hty his
 go_cut [6,7] (λp q W=>∃gt,p=.pointer (some ⟨gt,0,none⟩)/\W2.heap.size<=gt/\q=.bool is/\Blk W gt 83 (thC ty)/\Below W2.heap.size W2 W)
 case first=>
  go_region
  all_goals
   go_wp2_with fail
   go_meet
   exact ⟨_,rfl,Nat.le_refl _,rfl,Blk.new_at rfl,bel9⟩
 case rest=>
 obtain ⟨gt,rfl,hgt,rfl,hth,hbel⟩:=hcut
 have hK:= ‹∀(a:Act) (w:World),Code.wp _ _ _ a w->_›
 refine hK _ _ ?_
 refine wp_frame9 (λA hA=>?_)
 obtain ⟨tm,df⟩:=A
 simp only [Act.mk.injEq] at hA
 obtain ⟨ht,rfl⟩:=hA
 have hz:tm.size=406:=by rw [ht];rfl
 have e0:tm.getD 0 undef=.pointer (some ⟨g,0,none⟩):=by rw [ht];rfl
 have e3:tm.getD 3 undef=.pointer (some ⟨w.heap.size,0,none⟩):=by rw [ht];rfl
 have e4:tm.getD 4 undef=.pointer (some ⟨w.heap.size+1,0,none⟩):=by rw [ht];rfl
 have e5:tm.getD 5 undef=.func (.func 26) #[] #[]:=by rw [ht];rfl
 have e6:tm.getD 6 undef=.pointer (some ⟨gt,0,none⟩):=by rw [ht];rfl
 have e7:tm.getD 7 undef=.bool is:=by rw [ht];rfl
 clear ht
 rw [fr406_of hz]
 exact HH.out _ gt _ ⟨e0,e3,e4,e5,e6,by rw [HIS.out];exact e7⟩ ⟨HR2.out.below hbel,HB3.out.below hbel lx,HB4.out.below hbel lx4,by rw [HTY.out];exact hth,HO2.out.more hbel,by omega⟩
section
variable {W:World} {g:Nat}
theorem act_cells {kind id n mask:Int} {row:M.Row} {box:M.Box} (h:Blk W g 42 (actC ⟨kind,id,n,mask,row,box⟩)):W.cell? ⟨g,0,none⟩=some (.int .i64 kind)/\W.cell? ⟨g,1,none⟩=some (.int .i64 id)/\W.cell? ⟨g,2,none⟩=some (.int .i64 n)/\W.cell? ⟨g,3,none⟩=some (.int .i64 mask)/\W.cell? ⟨g,4,none⟩=some (.int .i64 row.X)/\W.cell? ⟨g,5,none⟩=some (.int .i64 row.Y)/\W.cell? ⟨g,6,none⟩=some (.int .i64 row.PX)/\W.cell? ⟨g,7,none⟩=some (.int .i64 row.PY)/\W.cell? ⟨g,8,none⟩=some (.int .i64 row.W)/\W.cell? ⟨g,9,none⟩=some (.int .i64 row.H)/\W.cell? ⟨g,10,none⟩=some (.int .i64 row.M)/\W.cell? ⟨g,11,none⟩=some (.int .i64 row.R)/\W.cell? ⟨g,12,none⟩=some (.int .i64 box.id)/\W.cell? ⟨g,13,none⟩=some (.int .i64 box.x1)/\W.cell? ⟨g,14,none⟩=some (.int .i64 box.y1)/\W.cell? ⟨g,15,none⟩=some (.int .i64 box.x2)/\W.cell? ⟨g,16,none⟩=some (.int .i64 box.y2):=
 ⟨h.cell 0,h.cell 1,h.cell 2,h.cell 3,h.cell 4,h.cell 5,h.cell 6,h.cell 7,h.cell 8,h.cell 9,h.cell 10,h.cell 11,h.cell 12,h.cell 13,h.cell 14,h.cell 15,h.cell 16⟩
theorem th_cells {m:Int} {r:M.Row} (h:Blk W g 83 (thC (m,r))):W.cell? ⟨g,0,none⟩=some (.int .i64 m)/\W.cell? ⟨g,1,none⟩=some (.int .i64 r.X)/\W.cell? ⟨g,2,none⟩=some (.int .i64 r.Y)/\W.cell? ⟨g,3,none⟩=some (.int .i64 r.PX)/\W.cell? ⟨g,4,none⟩=some (.int .i64 r.PY)/\W.cell? ⟨g,5,none⟩=some (.int .i64 r.W)/\W.cell? ⟨g,6,none⟩=some (.int .i64 r.H)/\W.cell? ⟨g,7,none⟩=some (.int .i64 r.M)/\W.cell? ⟨g,8,none⟩=some (.int .i64 r.R):=
 ⟨h.cell 0,h.cell 1,h.cell 2,h.cell 3,h.cell 4,h.cell 5,h.cell 6,h.cell 7,h.cell 8⟩
theorem game_cells {b:Nat} {sv:Value} {G:M.Game} (h:Blk W g 58 (refC b sv (more G))):W.cell? ⟨g,0,none⟩=some (.map (some b))/\W.cell? ⟨g,1,none⟩=some (.int .i64 G.w.things.next)/\W.cell? ⟨g,2,none⟩=some (.int .i64 G.w.fall)/\W.cell? ⟨g,3,none⟩=some (.int .i64 G.w.wide)/\W.cell? ⟨g,4,none⟩=some (.int .i64 G.w.high)/\W.cell? ⟨g,5,none⟩=some (sv)/\W.cell? ⟨g,6,none⟩=some (.int .i64 (G.acts+1)):=
 ⟨h.cell 0,h.cell 1,h.cell 2,h.cell 3,h.cell 4,h.cell 5,h.cell 6⟩
theorem four_cells {t:TypeId} {a b c d:Value} (h:Blk W g t #[a,b,c,d]):W.cell? ⟨g,0,none⟩=some (a)/\W.cell? ⟨g,1,none⟩=some (b)/\W.cell? ⟨g,2,none⟩=some (c)/\W.cell? ⟨g,3,none⟩=some (d):=
 ⟨h.cell 0,h.cell 1,h.cell 2,h.cell 3⟩
end
theorem rdo_facts {R:Nat->Prop} {w W:World} {g gt b:Nat} {G:M.Game} {sv:Value} {hs:List Nat} {kind id n mask:Int} {row:M.Row} {box:M.Box} (A:RdoAt R w g G b sv hs ⟨kind,id,n,mask,row,box⟩ gt W) (hR:∀y,R y->y<w.heap.size):
  (∀i,W.frozen? ⟨w.heap.size+1,i,none⟩=false)/\(∀i,W.frozen? ⟨g,i,none⟩=false)/\w.heap.size<W.heap.size/\w.heap.size+1<W.heap.size/\g<W.heap.size/\w.heap.size+1<gt/\
  Hid (RefAt W (λy=>R y\/W.heap.size<=y) g (more G) b sv hs)/\Hid (Only R w W)/\Hid (Blk W (w.heap.size+1) 35 #[.int .i64 0,.int .i64 0,.slice none 0 0,.slice none 0 0])/\Hid (Blk W g 58 (refC b sv (more G)))/\Hid (w.heap.size+1<W.heap.size)/\
  ¬g=w.heap.size/\¬w.heap.size=g/\¬g=w.heap.size+1/\¬w.heap.size+1=g:=by
 have hg:=hR g A.ref.inR
 exact ⟨λi=>A.rep.free i,λi=>A.ref.blk.free i,A.act.lt,A.rep.lt,A.ref.blk.lt,A.gap,hI (A.ref.wide (λy _ k=>.inl k)),hI A.only,hI A.rep,hI A.ref.blk,hI A.rep.lt,by omega,by omega,by omega,by omega⟩
theorem ne_new {a b c:Nat} (h1:a<b) (h2:b<=c):c≠a:=by omega
theorem rdo_end {R:Nat->Prop} {w U:World} {m g:Nat} {G':M.Game} {b:Nat} {sv:Value} {hs:List Nat} {ids met:Value} (h:RefAt U (λy=>R y\/m<=y) g G' b sv hs) (hR:∀y,R y->y<w.heap.size) (hm:w.heap.size+1<m) (ho:Only R w U) (r:M.Reply)
  (hid:U.ownsRow m 3 1 ids r.ids.length (r.ids.map (Value.int .i64))) (hmet:U.ownsRow m 71 2 met r.met.length (r.met.flatMap pairL)) (c0 c1 c2 c3:Value):
  RefPost R w g G' r (.returned (replyV r ids met)) ((((U.setCell ⟨w.heap.size+1,0,none⟩ c0).setCell ⟨w.heap.size+1,1,none⟩ c1).setCell ⟨w.heap.size+1,2,none⟩ c2).setCell ⟨w.heap.size+1,3,none⟩ c3):=by
 have far:∀y,y≠w.heap.size+1->((((U.setCell ⟨w.heap.size+1,0,none⟩ c0).setCell ⟨w.heap.size+1,1,none⟩ c1).setCell ⟨w.heap.size+1,2,none⟩ c2).setCell ⟨w.heap.size+1,3,none⟩ c3).heap[y]?=U.heap[y]?:=λy hy=>
  (((bS _ _ _ y hy).trans (bS _ _ _ y hy)).trans (bS _ _ _ y hy)).trans (bS _ _ _ y hy)
 refine ⟨b,sv,hs,ids,met,rfl,(h.keep (λy _ q=>far y (by rcases q with k|k<;>first|(have:=hR y k;omega)|omega))).wide (λy _ q=>q.imp id (λk=>by omega)),(((ho.setCell (.inr (Nat.le_succ _)) _).setCell (.inr (Nat.le_succ _)) _).setCell (.inr (Nat.le_succ _)) _).setCell (.inr (Nat.le_succ _)) _,?_,?_⟩
 ·exact Lies.mono (Lies.of_owns (own_same hid (λy e=>far y (by have:=(hid.lt y e).1;omega)))) (Nat.zero_le _)
 ·exact Lies.mono (Lies.of_owns (own_same hmet (λy e=>far y (by have:=(hmet.lt y e).1;omega)))) (Nat.zero_le _)
theorem But1.put {b:Nat} {w W:World} (h:But1 b w W) (i:Nat) (u:Value):But1 b w (W.setCell ⟨b,i,none⟩ u):=
 ⟨h.os,h.tape,h.output,by simpa [World.setCell] using h.size,λg h1 h2=>(bS _ _ _ _ h2).trans (h.block g h1 h2)⟩
theorem But1.turns {b c:Nat} {w W W':World} (h:But1 b w W) (k:W.mapTurned W' c) (hc:w.heap.size<=c):But1 b w W':=
 h.later (B:=w.heap.size) (below_turned (Below.refl _ W) k h.size hc) lR
theorem But1.only {R:Nat->Prop} {g:Nat} {w W U:World} (ho:Only R w W) (h:But1 g W U) (hg:R g):Only R w U:=
 ⟨h.os.trans ho.os,h.tape.trans ho.tape,h.output.trans ho.output,Nat.le_trans ho.size h.size,λy h1 h2=>(h.block y (Nat.lt_of_lt_of_le h1 ho.size) (λe=>h2 (e▸hg))).trans (ho.block y h1 h2)⟩
theorem RefAt.made {R:Nat->Prop} {W U:World} {m g:Nat} {G G':M.Game} {b b':Nat} {sv:Value} {hs:List Nat} (h:RefAt W (λy=>R y\/m<=y) g G b sv hs) (k:But1 g W U) (blk:Blk U g 58 (refC b' sv G')) (hsv:G'.saves=G.saves) (hm:m<=W.heap.size) (hb':W.heap.size<=b') (hmp:MapA U b' (M.at_ G'.w.things) (M.size G'.w.things)):RefAt U (λy=>R y\/m<=y) g G' b' sv hs:=
 h.upd (λy h1 _ h3=>k.block y h1 h3) blk hsv ⟨.inr bO,(by have:=h.blk.lt;omega),λe=>by have:=(h.own.lt _ e).2;omega⟩ hmp
theorem RefPost.more {R:Nat->Prop} {w U V:World} {g:Nat} {G':M.Game} {r:M.Reply} {e:Ending} (h:RefPost R w g G' r e U) (hb:Below U.heap.size U V):RefPost R w g G' r e V:=by
 obtain ⟨b,sv,hs,ids,met,he,hg,ho,h1,h2⟩:=h
 exact ⟨b,sv,hs,ids,met,he,hg.below hb,ho.more hb,h1.below hb,h2.below hb⟩
theorem DG.Facts.before {γ:Type} {c:DG γ} {k:Nat} {g:γ} {l:Array Bool} {a:Act} {W:World} (F:c.Facts k g l a W) {nf:Nat} (h:k∈c.needs nf):l.getD nf false=false:=by
 cases e:l.getD nf false with
 |false=>rfl
 |true=>have q:=F.closed nf k h e;rw [F.not] at q;cases q
theorem DG.Facts.up {γ:Type} {c:DG γ} {k:Nat} {g:γ} {l:Array Bool} {a:Act} {W:World} (F:c.Facts k g l a W) {nf m:Nat} (h:m∈c.needs nf) (hm:l.getD m false=false):l.getD nf false=false:=by
 cases e:l.getD nf false with
 |false=>rfl
 |true=>have q:=F.closed nf m h e;rw [hm] at q;cases q
noncomputable def r14C:Code:=((Tryz.f10.body.bind (regionOf 14)).getD .skip)
noncomputable def r14Ops:Array Oper:=match r14C with
 | .region _ ops _=>ops
 |_=>#[]
theorem r14C_is:r14C=.region 14 r14Ops true:=by kernel_rfl
theorem r14Ops_size:r14Ops.size=16:=by kernel_rfl
def r14Slot (k:Nat):Option Nat:=([some 78,some 79,some 80,some 81,some 82,some 83,some 84,some 85,some 86,some 87,some 88,some 89,some 90,some 91,some 92,none]:List (Option Nat)).getD k none
def r14Val (g p3 b:Nat) (mask next:Int) (row:M.Row) (w4:World) (gg:Unit) (k9:Nat):Value:=([.pointer (some ⟨g,0,none⟩),.pointer (some ⟨g,0,none⟩),.pointer (some ⟨g,0,none⟩),.pointer (some ⟨g,0,none⟩),.map (some b),.pointer (some ⟨g,0,none⟩),.pointer (some ⟨g,0,none⟩),.pointer (some ⟨g,0,none⟩),.pointer (some ⟨g,1,none⟩),.int .i64 next,.pointer (some ⟨p3,3,none⟩),.int .i64 mask,.pointer (some ⟨p3,4,none⟩),.agg #[.int .i64 row.X,.int .i64 row.Y,.int .i64 row.PX,.int .i64 row.PY,.int .i64 row.W,.int .i64 row.H,.int .i64 row.M,.int .i64 row.R],.agg #[.int .i64 mask,.int .i64 row.X,.int .i64 row.Y,.int .i64 row.PX,.int .i64 row.PY,.int .i64 row.W,.int .i64 row.H,.int .i64 row.M,.int .i64 row.R],undef]:List Value).getD k9 undef
def r14Needs (k:Nat):List Nat:=([[],[0],[1],[2],[3],[],[5],[6],[7],[8],[],[10],[],[12],[11,13],[0,1,2,3,4,5,6,7,8,9,10,11,12,13,14]]:List (List Nat)).getD k []
def r14Mem (g p3 b:Nat) (mask next:Int) (row:M.Row) (w4:World) (W0:World) (gg:Unit) (ll:Array Bool) (W:World):Prop:=W=(if ll.getD 15 false=true then w4 else W0)
noncomputable def r14K (g p3 b:Nat) (mask next:Int) (row:M.Row) (w4:World) (a0:Act) (W0:World):DG (Unit):={P:=Tryz.prog,ops:=r14Ops,a0:=a0,n:=16,slot:=r14Slot,val:=r14Val g p3 b mask next row w4,needs:=r14Needs,mem:=r14Mem g p3 b mask next row w4 W0}
section
variable {g p3 b:Nat} {mask next:Int} {row:M.Row} {w4:World}
variable {a0 fr:Act} {W0 W:World} {Q:Exit->Act->World->Prop} {gg:Unit} {ll:Array Bool} {k:Nat}
structure r14Ok (g p3 b:Nat) (mask next:Int) (row:M.Row) (w4:World) (a0:Act) (W0:World):Prop where
 h0:a0.eval (.tmp 0)=.pointer (some ⟨g,0,none⟩)
 h3:a0.eval (.tmp 3)=.pointer (some ⟨p3,0,none⟩)
 c0:W0.cell? ⟨g,0,none⟩=some (.map (some b))
 c1:W0.cell? ⟨g,1,none⟩=some (.int .i64 next)
 c2:W0.cell? ⟨p3,3,none⟩=some (.int .i64 mask)
 c3:W0.cell? ⟨p3,4,none⟩=some (.int .i64 row.X)
 c4:W0.cell? ⟨p3,5,none⟩=some (.int .i64 row.Y)
 c5:W0.cell? ⟨p3,6,none⟩=some (.int .i64 row.PX)
 c6:W0.cell? ⟨p3,7,none⟩=some (.int .i64 row.PY)
 c7:W0.cell? ⟨p3,8,none⟩=some (.int .i64 row.W)
 c8:W0.cell? ⟨p3,9,none⟩=some (.int .i64 row.H)
 c9:W0.cell? ⟨p3,10,none⟩=some (.int .i64 row.M)
 c10:W0.cell? ⟨p3,11,none⟩=some (.int .i64 row.R)
 hput:(Instr.mapUpdate 44 (.map (some b)) (.int .i64 next) (.agg #[.int .i64 mask,.int .i64 row.X,.int .i64 row.Y,.int .i64 row.PX,.int .i64 row.PY,.int .i64 row.W,.int .i64 row.H,.int .i64 row.M,.int .i64 row.R])).run Tryz.prog W0=.ok () w4
theorem r14_v (F:(r14K g p3 b mask next row w4 a0 W0).Facts k gg ll fr W) (j s:Nat) (h1:j∈r14Needs k) (h2:r14Slot j=some s):fr.eval (.tmp s)=r14Val g p3 b mask next row w4 gg j:=F.vals j s h1 h2
theorem r14_z (F:(r14K g p3 b mask next row w4 a0 W0).Facts k gg ll fr W):ll.size=16:=F.size
theorem r14_keep (F:(r14K g p3 b mask next row w4 a0 W0).Facts k gg ll fr W) (n15:k≠15):r14Mem g p3 b mask next row w4 W0 gg (ll.setIfInBounds k true) W:=by
 have h9:r14Mem g p3 b mask next row w4 W0 gg ll W:=F.mem
 unfold r14Mem at h9⊢
 rw [DG.set_ne n15]
 exact h9
theorem r14_x {p:Prop} (h:p:=by show Oper.wp Tryz.prog oo fr W K Q;unfold Oper.wp;(try simp only [r14K,r14Val,DG.gz,DG.gs] at e);simp only [execOp,hop,e,mA,mC,mN];go_simp;exact hK gg _ (λ_ _ _ _=>rfl) (r14_keep F dC)):p:=h
theorem r14_w (F:(r14K g p3 b mask next row w4 a0 W0).Facts k gg ll fr W) (h:ll.getD 15 false=false):W=W0:=by
 have h9:W=(if ll.getD 15 false=true then w4 else W0):=F.mem
 rw [h,if_neg sS] at h9
 exact h9
theorem r14_w0 (F:(r14K g p3 b mask next row w4 a0 W0).Facts 15 gg ll fr W):W=W0:=r14_w F F.not
theorem r14_ok (ok:r14Ok g p3 b mask next row w4 a0 W0) (hz:a0.tmps.size=406):(r14K g p3 b mask next row w4 a0 W0).Ok Q:=by
 refine DG.ok_of r14Ops_size kR kR (by rfl) hz (by rfl) ?_
 ·intro k hk
  rcases (show k=0\/k=1\/k=2\/k=3\/k=4\/k=5\/k=6\/k=7\/k=8\/k=9\/k=10\/k=11\/k=12\/k=13\/k=14\/k=15 from by have k9:k<16:=hk;omega) with rfl|rfl|rfl|rfl|rfl|rfl|rfl|rfl|rfl|rfl|rfl|rfl|rfl|rfl|rfl|rfl
  ·exact .ofo 0 ok.h0 (x:=(.move (.tmp 0),some 78)) (H:=λgg ll fr W F oo hop hd K hK e=>r14_x)
  ·exact .of1 0 78 (x:=(.nilCheck (.tmp 78),some 79)) (H:=λgg ll fr W F oo hop hd K hK e=>r14_x)
  ·exact .of1 1 79 (x:=(.fieldAddr 58 (.tmp 79) 0,some 80)) (H:=λgg ll fr W F oo hop hd K hK e=>r14_x)
  ·exact .of1 2 80 (x:=(.fieldAddr 46 (.tmp 80) 0,some 81)) (H:=λgg ll fr W F oo hop hd K hK e=>r14_x)
  ·refine .of1 3 81 (x:=(.load 44 (.tmp 81),some 82)) (H:=λgg ll fr W F oo hop hd K hK e=>?_)
   obtain rfl:=r14_w F (F.before (show 4∈r14Needs 15 from by decide))
   have u0:=ok.c0
   exact r14_x
  ·exact .ofo 0 ok.h0 (x:=(.move (.tmp 0),some 83)) (H:=λgg ll fr W F oo hop hd K hK e=>r14_x)
  ·exact .of1 5 83 (x:=(.nilCheck (.tmp 83),some 84)) (H:=λgg ll fr W F oo hop hd K hK e=>r14_x)
  ·exact .of1 6 84 (x:=(.fieldAddr 58 (.tmp 84) 0,some 85)) (H:=λgg ll fr W F oo hop hd K hK e=>r14_x)
  ·exact .of1 7 85 (x:=(.fieldAddr 46 (.tmp 85) 1,some 86)) (H:=λgg ll fr W F oo hop hd K hK e=>r14_x)
  ·refine .of1 8 86 (x:=(.load 3 (.tmp 86),some 87)) (H:=λgg ll fr W F oo hop hd K hK e=>?_)
   obtain rfl:=r14_w F (F.before (show 9∈r14Needs 15 from by decide))
   have u0:=ok.c1
   exact r14_x
  ·exact .ofo 3 ok.h3 (x:=(.fieldAddr 42 (.tmp 3) 3,some 88)) (H:=λgg ll fr W F oo hop hd K hK e=>r14_x)
  ·refine .of1 10 88 (x:=(.load 3 (.tmp 88),some 89)) (H:=λgg ll fr W F oo hop hd K hK e=>?_)
   obtain rfl:=r14_w F (F.before (show 11∈r14Needs 15 from by decide))
   have u0:=ok.c2
   exact r14_x
  ·exact .ofo 3 ok.h3 (x:=(.fieldAddr 42 (.tmp 3) 4,some 90)) (H:=λgg ll fr W F oo hop hd K hK e=>r14_x)
  ·refine .of1 12 90 (x:=(.load 38 (.tmp 90),some 91)) (H:=λgg ll fr W F oo hop hd K hK e=>?_)
   obtain rfl:=r14_w F (F.before (show 13∈r14Needs 15 from by decide))
   have u0:=ok.c3
   have u1:=ok.c4
   have u2:=ok.c5
   have u3:=ok.c6
   have u4:=ok.c7
   have u5:=ok.c8
   have u6:=ok.c9
   have u7:=ok.c10
   exact r14_x
  ·exact .of2 11 89 13 91 (x:=(.build 83 #[(0,.tmp 89),(1,.tmp 91)],some 92)) (H:=λgg ll fr W F oo hop hd K hK e=>r14_x)
  ·refine .of (x:=(.mapUpdate 44 (.tmp 82) (.tmp 87) (.tmp 92),none)) kR λgg ll fr W F oo hop hd K hK=>?_
   have e4:=r14_v F 4 82 dC rfl
   have e9:=r14_v F 9 87 dC rfl
   have e14:=r14_v F 14 92 dC rfl
   simp only [r14Val,DG.gz,DG.gs] at e4 e9 e14
   have hz:15<ll.size:=by rw [r14_z F];decide
   obtain rfl:=r14_w0 F
   have hp:=ok.hput
   show oo.wp Tryz.prog fr W K Q
   unfold Oper.wp
   simp only [execOp,hop,e4,e9,e14,mA,mC,mN]
   go_simp
   exact hK gg _ (λ_ _ _ _=>rfl) (show r14Mem g p3 b mask next row w4 _ gg (ll.setIfInBounds 15 true) w4 from by unfold r14Mem;rw [DG.set_eq hz,if_pos rfl])
abbrev r14L (g p3 b:Nat) (mask next:Int) (row:M.Row) (w4:World) (gg:Unit):List (Nat×Value):=[(78,r14Val g p3 b mask next row w4 gg 0),(79,r14Val g p3 b mask next row w4 gg 1),(80,r14Val g p3 b mask next row w4 gg 2),(81,r14Val g p3 b mask next row w4 gg 3),(82,r14Val g p3 b mask next row w4 gg 4),(83,r14Val g p3 b mask next row w4 gg 5),(84,r14Val g p3 b mask next row w4 gg 6),(85,r14Val g p3 b mask next row w4 gg 7),(86,r14Val g p3 b mask next row w4 gg 8),(87,r14Val g p3 b mask next row w4 gg 9),(88,r14Val g p3 b mask next row w4 gg 10),(89,r14Val g p3 b mask next row w4 gg 11),(90,r14Val g p3 b mask next row w4 gg 12),(91,r14Val g p3 b mask next row w4 gg 13),(92,r14Val g p3 b mask next row w4 gg 14)]
theorem r14_region (ok:r14Ok g p3 b mask next row w4 a0 W0) (hz:a0.tmps.size=406) (hd:a0.defers=[]) (g0:Unit) (hm:r14Mem g p3 b mask next row w4 W0 g0 (Array.replicate 16 false) W)
  (hQ:∀(gg:Unit) (ll:Array Bool) (W':World),(∀k,k<16->ll.getD k false=true)->r14Mem g p3 b mask next row w4 W0 gg ll W'->Q .normal ⟨DG.setQ a0.tmps (r14L g p3 b mask next row w4 gg),[]⟩ W'):
  wpAny Tryz.prog .any r14Ops Q 16 (Array.replicate 16 false) a0 W:=
 DG.region2 (c:=r14K g p3 b mask next row w4 a0 W0) (r14_ok ok hz) kR hd g0 hm (r14L g p3 b mask next row w4) (λ_=>rfl) hQ
end
noncomputable def r50C:Code:=((Tryz.f10.body.bind (regionOf 50)).getD .skip)
noncomputable def r50Ops:Array Oper:=match r50C with
 | .region _ ops _=>ops
 |_=>#[]
theorem r50C_is:r50C=.region 50 r50Ops true:=by kernel_rfl
theorem r50Ops_size:r50Ops.size=8:=by kernel_rfl
def r50Slot (k:Nat):Option Nat:=([some 236,some 237,some 238,some 239,some 240,some 241,some 242,none]:List (Option Nat)).getD k none
def r50Val (g p3 b:Nat) (id:Int) (w4:World) (gg:Unit) (k9:Nat):Value:=([.pointer (some ⟨g,0,none⟩),.pointer (some ⟨g,0,none⟩),.pointer (some ⟨g,0,none⟩),.pointer (some ⟨g,0,none⟩),.map (some b),.pointer (some ⟨p3,1,none⟩),.int .i64 id,undef]:List Value).getD k9 undef
def r50Needs (k:Nat):List Nat:=([[],[0],[1],[2],[3],[],[5],[4,6]]:List (List Nat)).getD k []
def r50Mem (g p3 b:Nat) (id:Int) (w4:World) (W0:World) (gg:Unit) (ll:Array Bool) (W:World):Prop:=W=(if ll.getD 7 false=true then w4 else W0)
noncomputable def r50K (g p3 b:Nat) (id:Int) (w4:World) (a0:Act) (W0:World):DG (Unit):={P:=Tryz.prog,ops:=r50Ops,a0:=a0,n:=8,slot:=r50Slot,val:=r50Val g p3 b id w4,needs:=r50Needs,mem:=r50Mem g p3 b id w4 W0}
section
variable {g p3 b:Nat} {id:Int} {w4:World}
variable {a0 fr:Act} {W0 W:World} {Q:Exit->Act->World->Prop} {gg:Unit} {ll:Array Bool} {k:Nat}
structure r50Ok (g p3 b:Nat) (id:Int) (w4:World) (a0:Act) (W0:World):Prop where
 h0:a0.eval (.tmp 0)=.pointer (some ⟨g,0,none⟩)
 h3:a0.eval (.tmp 3)=.pointer (some ⟨p3,0,none⟩)
 c0:W0.cell? ⟨g,0,none⟩=some (.map (some b))
 c1:W0.cell? ⟨p3,1,none⟩=some (.int .i64 id)
 hput:∀oty,(Builtin.delete_ #[44,3] oty #[.map (some b),.int .i64 id]).run Tryz.prog W0=.ok (.tuple #[]) w4
theorem r50_v (F:(r50K g p3 b id w4 a0 W0).Facts k gg ll fr W) (j s:Nat) (h1:j∈r50Needs k) (h2:r50Slot j=some s):fr.eval (.tmp s)=r50Val g p3 b id w4 gg j:=F.vals j s h1 h2
theorem r50_z (F:(r50K g p3 b id w4 a0 W0).Facts k gg ll fr W):ll.size=8:=F.size
theorem r50_keep (F:(r50K g p3 b id w4 a0 W0).Facts k gg ll fr W) (n7:k≠7):r50Mem g p3 b id w4 W0 gg (ll.setIfInBounds k true) W:=by
 have h9:r50Mem g p3 b id w4 W0 gg ll W:=F.mem
 unfold r50Mem at h9⊢
 rw [DG.set_ne n7]
 exact h9
theorem r50_x {p:Prop} (h:p:=by show Oper.wp Tryz.prog oo fr W K Q;unfold Oper.wp;(try simp only [r50K,r50Val,DG.gz,DG.gs] at e);simp only [execOp,hop,e,mA,mC,mN];go_simp;exact hK gg _ (λ_ _ _ _=>rfl) (r50_keep F dC)):p:=h
theorem r50_w (F:(r50K g p3 b id w4 a0 W0).Facts k gg ll fr W) (h:ll.getD 7 false=false):W=W0:=by
 have h9:W=(if ll.getD 7 false=true then w4 else W0):=F.mem
 rw [h,if_neg sS] at h9
 exact h9
theorem r50_w0 (F:(r50K g p3 b id w4 a0 W0).Facts 7 gg ll fr W):W=W0:=r50_w F F.not
theorem r50_ok (ok:r50Ok g p3 b id w4 a0 W0) (hz:a0.tmps.size=406):(r50K g p3 b id w4 a0 W0).Ok Q:=by
 refine DG.ok_of r50Ops_size kR kR (by rfl) hz (by rfl) ?_
 ·intro k hk
  rcases (show k=0\/k=1\/k=2\/k=3\/k=4\/k=5\/k=6\/k=7 from by have k9:k<8:=hk;omega) with rfl|rfl|rfl|rfl|rfl|rfl|rfl|rfl
  ·exact .ofo 0 ok.h0 (x:=(.move (.tmp 0),some 236)) (H:=λgg ll fr W F oo hop hd K hK e=>r50_x)
  ·exact .of1 0 236 (x:=(.nilCheck (.tmp 236),some 237)) (H:=λgg ll fr W F oo hop hd K hK e=>r50_x)
  ·exact .of1 1 237 (x:=(.fieldAddr 58 (.tmp 237) 0,some 238)) (H:=λgg ll fr W F oo hop hd K hK e=>r50_x)
  ·exact .of1 2 238 (x:=(.fieldAddr 46 (.tmp 238) 0,some 239)) (H:=λgg ll fr W F oo hop hd K hK e=>r50_x)
  ·refine .of1 3 239 (x:=(.load 44 (.tmp 239),some 240)) (H:=λgg ll fr W F oo hop hd K hK e=>?_)
   obtain rfl:=r50_w F (F.before (show 4∈r50Needs 7 from by decide))
   have u0:=ok.c0
   exact r50_x
  ·exact .ofo 3 ok.h3 (x:=(.fieldAddr 42 (.tmp 3) 1,some 241)) (H:=λgg ll fr W F oo hop hd K hK e=>r50_x)
  ·refine .of1 5 241 (x:=(.load 3 (.tmp 241),some 242)) (H:=λgg ll fr W F oo hop hd K hK e=>?_)
   obtain rfl:=r50_w F (F.before (show 6∈r50Needs 7 from by decide))
   have u0:=ok.c1
   exact r50_x
  ·refine .of (x:=(.call {callee:=.builtin .delete,args:=#[.tmp 240,.tmp 242],argTypes:=#[44,3]},none)) kR λgg ll fr W F oo hop hd K hK=>?_
   have e4:=r50_v F 4 240 dC rfl
   have e6:=r50_v F 6 242 dC rfl
   simp only [r50Val,DG.gz,DG.gs] at e4 e6
   have hz:7<ll.size:=by rw [r50_z F];decide
   obtain rfl:=r50_w0 F
   have hp:=ok.hput
   show oo.wp Tryz.prog fr W K Q
   unfold Oper.wp
   simp only [execOp,hop,e4,e6,mA,mC,mN]
   go_simp
   simp only [DG.tmps_eval,e4,e6,hp]
   go_simp
   exact hK gg _ (λ_ _ _ _=>rfl) (show r50Mem g p3 b id w4 _ gg (ll.setIfInBounds 7 true) w4 from by unfold r50Mem;rw [DG.set_eq hz,if_pos rfl])
abbrev r50L (g p3 b:Nat) (id:Int) (w4:World) (gg:Unit):List (Nat×Value):=[(236,r50Val g p3 b id w4 gg 0),(237,r50Val g p3 b id w4 gg 1),(238,r50Val g p3 b id w4 gg 2),(239,r50Val g p3 b id w4 gg 3),(240,r50Val g p3 b id w4 gg 4),(241,r50Val g p3 b id w4 gg 5),(242,r50Val g p3 b id w4 gg 6)]
theorem r50_region (ok:r50Ok g p3 b id w4 a0 W0) (hz:a0.tmps.size=406) (hd:a0.defers=[]) (g0:Unit) (hm:r50Mem g p3 b id w4 W0 g0 (Array.replicate 8 false) W)
  (hQ:∀(gg:Unit) (ll:Array Bool) (W':World),(∀k,k<8->ll.getD k false=true)->r50Mem g p3 b id w4 W0 gg ll W'->Q .normal ⟨DG.setQ a0.tmps (r50L g p3 b id w4 gg),[]⟩ W'):
  wpAny Tryz.prog .any r50Ops Q 8 (Array.replicate 8 false) a0 W:=
 DG.region2 (c:=r50K g p3 b id w4 a0 W0) (r50_ok ok hz) kR hd g0 hm (r50L g p3 b id w4) (λ_=>rfl) hQ
end
noncomputable def r72C:Code:=((Tryz.f10.body.bind (regionOf 72)).getD .skip)
noncomputable def r72Ops:Array Oper:=match r72C with
 | .region _ ops _=>ops
 |_=>#[]
theorem r72C_is:r72C=.region 72 r72Ops true:=by kernel_rfl
theorem r72Ops_size:r72Ops.size=9:=by kernel_rfl
def r72Slot (k:Nat):Option Nat:=([some 362,some 363,some 364,some 365,some 366,some 367,some 368,some 369,none]:List (Option Nat)).getD k none
def r72Val (g p3 p12 b:Nat) (id:Int) (t:M.Th) (w4:World) (gg:Unit) (k9:Nat):Value:=([.pointer (some ⟨g,0,none⟩),.pointer (some ⟨g,0,none⟩),.pointer (some ⟨g,0,none⟩),.pointer (some ⟨g,0,none⟩),.map (some b),.pointer (some ⟨p3,1,none⟩),.int .i64 id,.agg #[.int .i64 t.1,.int .i64 t.2.X,.int .i64 t.2.Y,.int .i64 t.2.PX,.int .i64 t.2.PY,.int .i64 t.2.W,.int .i64 t.2.H,.int .i64 t.2.M,.int .i64 t.2.R],undef]:List Value).getD k9 undef
def r72Needs (k:Nat):List Nat:=([[],[0],[1],[2],[3],[],[5],[],[0,1,2,3,4,5,6,7]]:List (List Nat)).getD k []
def r72Mem (g p3 p12 b:Nat) (id:Int) (t:M.Th) (w4:World) (W0:World) (gg:Unit) (ll:Array Bool) (W:World):Prop:=W=(if ll.getD 8 false=true then w4 else W0)
noncomputable def r72K (g p3 p12 b:Nat) (id:Int) (t:M.Th) (w4:World) (a0:Act) (W0:World):DG (Unit):={P:=Tryz.prog,ops:=r72Ops,a0:=a0,n:=9,slot:=r72Slot,val:=r72Val g p3 p12 b id t w4,needs:=r72Needs,mem:=r72Mem g p3 p12 b id t w4 W0}
section
variable {g p3 p12 b:Nat} {id:Int} {t:M.Th} {w4:World}
variable {a0 fr:Act} {W0 W:World} {Q:Exit->Act->World->Prop} {gg:Unit} {ll:Array Bool} {k:Nat}
structure r72Ok (g p3 p12 b:Nat) (id:Int) (t:M.Th) (w4:World) (a0:Act) (W0:World):Prop where
 h0:a0.eval (.tmp 0)=.pointer (some ⟨g,0,none⟩)
 h3:a0.eval (.tmp 3)=.pointer (some ⟨p3,0,none⟩)
 h12:a0.eval (.tmp 12)=.pointer (some ⟨p12,0,none⟩)
 c0:W0.cell? ⟨g,0,none⟩=some (.map (some b))
 c1:W0.cell? ⟨p3,1,none⟩=some (.int .i64 id)
 c2:W0.cell? ⟨p12,0,none⟩=some (.int .i64 t.1)
 c3:W0.cell? ⟨p12,1,none⟩=some (.int .i64 t.2.X)
 c4:W0.cell? ⟨p12,2,none⟩=some (.int .i64 t.2.Y)
 c5:W0.cell? ⟨p12,3,none⟩=some (.int .i64 t.2.PX)
 c6:W0.cell? ⟨p12,4,none⟩=some (.int .i64 t.2.PY)
 c7:W0.cell? ⟨p12,5,none⟩=some (.int .i64 t.2.W)
 c8:W0.cell? ⟨p12,6,none⟩=some (.int .i64 t.2.H)
 c9:W0.cell? ⟨p12,7,none⟩=some (.int .i64 t.2.M)
 c10:W0.cell? ⟨p12,8,none⟩=some (.int .i64 t.2.R)
 hput:(Instr.mapUpdate 44 (.map (some b)) (.int .i64 id) (.agg #[.int .i64 t.1,.int .i64 t.2.X,.int .i64 t.2.Y,.int .i64 t.2.PX,.int .i64 t.2.PY,.int .i64 t.2.W,.int .i64 t.2.H,.int .i64 t.2.M,.int .i64 t.2.R])).run Tryz.prog W0=.ok () w4
theorem r72_v (F:(r72K g p3 p12 b id t w4 a0 W0).Facts k gg ll fr W) (j s:Nat) (h1:j∈r72Needs k) (h2:r72Slot j=some s):fr.eval (.tmp s)=r72Val g p3 p12 b id t w4 gg j:=F.vals j s h1 h2
theorem r72_z (F:(r72K g p3 p12 b id t w4 a0 W0).Facts k gg ll fr W):ll.size=9:=F.size
theorem r72_keep (F:(r72K g p3 p12 b id t w4 a0 W0).Facts k gg ll fr W) (n8:k≠8):r72Mem g p3 p12 b id t w4 W0 gg (ll.setIfInBounds k true) W:=by
 have h9:r72Mem g p3 p12 b id t w4 W0 gg ll W:=F.mem
 unfold r72Mem at h9⊢
 rw [DG.set_ne n8]
 exact h9
theorem r72_x {p:Prop} (h:p:=by show Oper.wp Tryz.prog oo fr W K Q;unfold Oper.wp;(try simp only [r72K,r72Val,DG.gz,DG.gs] at e);simp only [execOp,hop,e,mA,mC,mN];go_simp;exact hK gg _ (λ_ _ _ _=>rfl) (r72_keep F dC)):p:=h
theorem r72_w (F:(r72K g p3 p12 b id t w4 a0 W0).Facts k gg ll fr W) (h:ll.getD 8 false=false):W=W0:=by
 have h9:W=(if ll.getD 8 false=true then w4 else W0):=F.mem
 rw [h,if_neg sS] at h9
 exact h9
theorem r72_w0 (F:(r72K g p3 p12 b id t w4 a0 W0).Facts 8 gg ll fr W):W=W0:=r72_w F F.not
theorem r72_ok (ok:r72Ok g p3 p12 b id t w4 a0 W0) (hz:a0.tmps.size=406):(r72K g p3 p12 b id t w4 a0 W0).Ok Q:=by
 refine DG.ok_of r72Ops_size kR kR (by rfl) hz (by rfl) ?_
 ·intro k hk
  rcases (show k=0\/k=1\/k=2\/k=3\/k=4\/k=5\/k=6\/k=7\/k=8 from by have k9:k<9:=hk;omega) with rfl|rfl|rfl|rfl|rfl|rfl|rfl|rfl|rfl
  ·exact .ofo 0 ok.h0 (x:=(.move (.tmp 0),some 362)) (H:=λgg ll fr W F oo hop hd K hK e=>r72_x)
  ·exact .of1 0 362 (x:=(.nilCheck (.tmp 362),some 363)) (H:=λgg ll fr W F oo hop hd K hK e=>r72_x)
  ·exact .of1 1 363 (x:=(.fieldAddr 58 (.tmp 363) 0,some 364)) (H:=λgg ll fr W F oo hop hd K hK e=>r72_x)
  ·exact .of1 2 364 (x:=(.fieldAddr 46 (.tmp 364) 0,some 365)) (H:=λgg ll fr W F oo hop hd K hK e=>r72_x)
  ·refine .of1 3 365 (x:=(.load 44 (.tmp 365),some 366)) (H:=λgg ll fr W F oo hop hd K hK e=>?_)
   obtain rfl:=r72_w F (F.before (show 4∈r72Needs 8 from by decide))
   have u0:=ok.c0
   exact r72_x
  ·exact .ofo 3 ok.h3 (x:=(.fieldAddr 42 (.tmp 3) 1,some 367)) (H:=λgg ll fr W F oo hop hd K hK e=>r72_x)
  ·refine .of1 5 367 (x:=(.load 3 (.tmp 367),some 368)) (H:=λgg ll fr W F oo hop hd K hK e=>?_)
   obtain rfl:=r72_w F (F.before (show 6∈r72Needs 8 from by decide))
   have u0:=ok.c1
   exact r72_x
  ·refine .ofo 12 ok.h12 (x:=(.load 83 (.tmp 12),some 369)) (H:=λgg ll fr W F oo hop hd K hK e=>?_)
   obtain rfl:=r72_w F (F.before (show 7∈r72Needs 8 from by decide))
   have u0:=ok.c2
   have u1:=ok.c3
   have u2:=ok.c4
   have u3:=ok.c5
   have u4:=ok.c6
   have u5:=ok.c7
   have u6:=ok.c8
   have u7:=ok.c9
   have u8:=ok.c10
   exact r72_x
  ·refine .of (x:=(.mapUpdate 44 (.tmp 366) (.tmp 368) (.tmp 369),none)) kR λgg ll fr W F oo hop hd K hK=>?_
   have e4:=r72_v F 4 366 dC rfl
   have e6:=r72_v F 6 368 dC rfl
   have e7:=r72_v F 7 369 dC rfl
   simp only [r72Val,DG.gz,DG.gs] at e4 e6 e7
   have hz:8<ll.size:=by rw [r72_z F];decide
   obtain rfl:=r72_w0 F
   have hp:=ok.hput
   show oo.wp Tryz.prog fr W K Q
   unfold Oper.wp
   simp only [execOp,hop,e4,e6,e7,mA,mC,mN]
   go_simp
   exact hK gg _ (λ_ _ _ _=>rfl) (show r72Mem g p3 p12 b id t w4 _ gg (ll.setIfInBounds 8 true) w4 from by unfold r72Mem;rw [DG.set_eq hz,if_pos rfl])
abbrev r72L (g p3 p12 b:Nat) (id:Int) (t:M.Th) (w4:World) (gg:Unit):List (Nat×Value):=[(362,r72Val g p3 p12 b id t w4 gg 0),(363,r72Val g p3 p12 b id t w4 gg 1),(364,r72Val g p3 p12 b id t w4 gg 2),(365,r72Val g p3 p12 b id t w4 gg 3),(366,r72Val g p3 p12 b id t w4 gg 4),(367,r72Val g p3 p12 b id t w4 gg 5),(368,r72Val g p3 p12 b id t w4 gg 6),(369,r72Val g p3 p12 b id t w4 gg 7)]
theorem r72_region (ok:r72Ok g p3 p12 b id t w4 a0 W0) (hz:a0.tmps.size=406) (hd:a0.defers=[]) (g0:Unit) (hm:r72Mem g p3 p12 b id t w4 W0 g0 (Array.replicate 9 false) W)
  (hQ:∀(gg:Unit) (ll:Array Bool) (W':World),(∀k,k<9->ll.getD k false=true)->r72Mem g p3 p12 b id t w4 W0 gg ll W'->Q .normal ⟨DG.setQ a0.tmps (r72L g p3 p12 b id t w4 gg),[]⟩ W'):
  wpAny Tryz.prog .any r72Ops Q 9 (Array.replicate 9 false) a0 W:=
 DG.region2 (c:=r72K g p3 p12 b id t w4 a0 W0) (r72_ok ok hz) kR hd g0 hm (r72L g p3 p12 b id t w4) (λ_=>rfl) hQ
end
noncomputable def r77C:Code:=((Tryz.f10.body.bind (regionOf 77)).getD .skip)
noncomputable def r77Ops:Array Oper:=match r77C with
 | .region _ ops _=>ops
 |_=>#[]
theorem r77C_is:r77C=.region 77 r77Ops true:=by kernel_rfl
theorem r77Ops_size:r77Ops.size=9:=by kernel_rfl
def r77Slot (k:Nat):Option Nat:=([some 396,some 397,some 398,some 399,some 400,some 401,some 402,some 403,none]:List (Option Nat)).getD k none
def r77Val (g p3 p6 b:Nat) (id:Int) (t:M.Th) (w4:World) (gg:Unit) (k9:Nat):Value:=([.pointer (some ⟨g,0,none⟩),.pointer (some ⟨g,0,none⟩),.pointer (some ⟨g,0,none⟩),.pointer (some ⟨g,0,none⟩),.map (some b),.pointer (some ⟨p3,1,none⟩),.int .i64 id,.agg #[.int .i64 t.1,.int .i64 t.2.X,.int .i64 t.2.Y,.int .i64 t.2.PX,.int .i64 t.2.PY,.int .i64 t.2.W,.int .i64 t.2.H,.int .i64 t.2.M,.int .i64 t.2.R],undef]:List Value).getD k9 undef
def r77Needs (k:Nat):List Nat:=([[],[0],[1],[2],[3],[],[5],[],[0,1,2,3,4,5,6,7]]:List (List Nat)).getD k []
def r77Mem (g p3 p6 b:Nat) (id:Int) (t:M.Th) (w4:World) (W0:World) (gg:Unit) (ll:Array Bool) (W:World):Prop:=W=(if ll.getD 8 false=true then w4 else W0)
noncomputable def r77K (g p3 p6 b:Nat) (id:Int) (t:M.Th) (w4:World) (a0:Act) (W0:World):DG (Unit):={P:=Tryz.prog,ops:=r77Ops,a0:=a0,n:=9,slot:=r77Slot,val:=r77Val g p3 p6 b id t w4,needs:=r77Needs,mem:=r77Mem g p3 p6 b id t w4 W0}
section
variable {g p3 p6 b:Nat} {id:Int} {t:M.Th} {w4:World}
variable {a0 fr:Act} {W0 W:World} {Q:Exit->Act->World->Prop} {gg:Unit} {ll:Array Bool} {k:Nat}
structure r77Ok (g p3 p6 b:Nat) (id:Int) (t:M.Th) (w4:World) (a0:Act) (W0:World):Prop where
 h0:a0.eval (.tmp 0)=.pointer (some ⟨g,0,none⟩)
 h3:a0.eval (.tmp 3)=.pointer (some ⟨p3,0,none⟩)
 h6:a0.eval (.tmp 6)=.pointer (some ⟨p6,0,none⟩)
 c0:W0.cell? ⟨g,0,none⟩=some (.map (some b))
 c1:W0.cell? ⟨p3,1,none⟩=some (.int .i64 id)
 c2:W0.cell? ⟨p6,0,none⟩=some (.int .i64 t.1)
 c3:W0.cell? ⟨p6,1,none⟩=some (.int .i64 t.2.X)
 c4:W0.cell? ⟨p6,2,none⟩=some (.int .i64 t.2.Y)
 c5:W0.cell? ⟨p6,3,none⟩=some (.int .i64 t.2.PX)
 c6:W0.cell? ⟨p6,4,none⟩=some (.int .i64 t.2.PY)
 c7:W0.cell? ⟨p6,5,none⟩=some (.int .i64 t.2.W)
 c8:W0.cell? ⟨p6,6,none⟩=some (.int .i64 t.2.H)
 c9:W0.cell? ⟨p6,7,none⟩=some (.int .i64 t.2.M)
 c10:W0.cell? ⟨p6,8,none⟩=some (.int .i64 t.2.R)
 hput:(Instr.mapUpdate 44 (.map (some b)) (.int .i64 id) (.agg #[.int .i64 t.1,.int .i64 t.2.X,.int .i64 t.2.Y,.int .i64 t.2.PX,.int .i64 t.2.PY,.int .i64 t.2.W,.int .i64 t.2.H,.int .i64 t.2.M,.int .i64 t.2.R])).run Tryz.prog W0=.ok () w4
theorem r77_v (F:(r77K g p3 p6 b id t w4 a0 W0).Facts k gg ll fr W) (j s:Nat) (h1:j∈r77Needs k) (h2:r77Slot j=some s):fr.eval (.tmp s)=r77Val g p3 p6 b id t w4 gg j:=F.vals j s h1 h2
theorem r77_z (F:(r77K g p3 p6 b id t w4 a0 W0).Facts k gg ll fr W):ll.size=9:=F.size
theorem r77_keep (F:(r77K g p3 p6 b id t w4 a0 W0).Facts k gg ll fr W) (n8:k≠8):r77Mem g p3 p6 b id t w4 W0 gg (ll.setIfInBounds k true) W:=by
 have h9:r77Mem g p3 p6 b id t w4 W0 gg ll W:=F.mem
 unfold r77Mem at h9⊢
 rw [DG.set_ne n8]
 exact h9
theorem r77_x {p:Prop} (h:p:=by show Oper.wp Tryz.prog oo fr W K Q;unfold Oper.wp;(try simp only [r77K,r77Val,DG.gz,DG.gs] at e);simp only [execOp,hop,e,mA,mC,mN];go_simp;exact hK gg _ (λ_ _ _ _=>rfl) (r77_keep F dC)):p:=h
theorem r77_w (F:(r77K g p3 p6 b id t w4 a0 W0).Facts k gg ll fr W) (h:ll.getD 8 false=false):W=W0:=by
 have h9:W=(if ll.getD 8 false=true then w4 else W0):=F.mem
 rw [h,if_neg sS] at h9
 exact h9
theorem r77_w0 (F:(r77K g p3 p6 b id t w4 a0 W0).Facts 8 gg ll fr W):W=W0:=r77_w F F.not
theorem r77_ok (ok:r77Ok g p3 p6 b id t w4 a0 W0) (hz:a0.tmps.size=406):(r77K g p3 p6 b id t w4 a0 W0).Ok Q:=by
 refine DG.ok_of r77Ops_size kR kR (by rfl) hz (by rfl) ?_
 ·intro k hk
  rcases (show k=0\/k=1\/k=2\/k=3\/k=4\/k=5\/k=6\/k=7\/k=8 from by have k9:k<9:=hk;omega) with rfl|rfl|rfl|rfl|rfl|rfl|rfl|rfl|rfl
  ·exact .ofo 0 ok.h0 (x:=(.move (.tmp 0),some 396)) (H:=λgg ll fr W F oo hop hd K hK e=>r77_x)
  ·exact .of1 0 396 (x:=(.nilCheck (.tmp 396),some 397)) (H:=λgg ll fr W F oo hop hd K hK e=>r77_x)
  ·exact .of1 1 397 (x:=(.fieldAddr 58 (.tmp 397) 0,some 398)) (H:=λgg ll fr W F oo hop hd K hK e=>r77_x)
  ·exact .of1 2 398 (x:=(.fieldAddr 46 (.tmp 398) 0,some 399)) (H:=λgg ll fr W F oo hop hd K hK e=>r77_x)
  ·refine .of1 3 399 (x:=(.load 44 (.tmp 399),some 400)) (H:=λgg ll fr W F oo hop hd K hK e=>?_)
   obtain rfl:=r77_w F (F.before (show 4∈r77Needs 8 from by decide))
   have u0:=ok.c0
   exact r77_x
  ·exact .ofo 3 ok.h3 (x:=(.fieldAddr 42 (.tmp 3) 1,some 401)) (H:=λgg ll fr W F oo hop hd K hK e=>r77_x)
  ·refine .of1 5 401 (x:=(.load 3 (.tmp 401),some 402)) (H:=λgg ll fr W F oo hop hd K hK e=>?_)
   obtain rfl:=r77_w F (F.before (show 6∈r77Needs 8 from by decide))
   have u0:=ok.c1
   exact r77_x
  ·refine .ofo 6 ok.h6 (x:=(.load 83 (.tmp 6),some 403)) (H:=λgg ll fr W F oo hop hd K hK e=>?_)
   obtain rfl:=r77_w F (F.before (show 7∈r77Needs 8 from by decide))
   have u0:=ok.c2
   have u1:=ok.c3
   have u2:=ok.c4
   have u3:=ok.c5
   have u4:=ok.c6
   have u5:=ok.c7
   have u6:=ok.c8
   have u7:=ok.c9
   have u8:=ok.c10
   exact r77_x
  ·refine .of (x:=(.mapUpdate 44 (.tmp 400) (.tmp 402) (.tmp 403),none)) kR λgg ll fr W F oo hop hd K hK=>?_
   have e4:=r77_v F 4 400 dC rfl
   have e6:=r77_v F 6 402 dC rfl
   have e7:=r77_v F 7 403 dC rfl
   simp only [r77Val,DG.gz,DG.gs] at e4 e6 e7
   have hz:8<ll.size:=by rw [r77_z F];decide
   obtain rfl:=r77_w0 F
   have hp:=ok.hput
   show oo.wp Tryz.prog fr W K Q
   unfold Oper.wp
   simp only [execOp,hop,e4,e6,e7,mA,mC,mN]
   go_simp
   exact hK gg _ (λ_ _ _ _=>rfl) (show r77Mem g p3 p6 b id t w4 _ gg (ll.setIfInBounds 8 true) w4 from by unfold r77Mem;rw [DG.set_eq hz,if_pos rfl])
abbrev r77L (g p3 p6 b:Nat) (id:Int) (t:M.Th) (w4:World) (gg:Unit):List (Nat×Value):=[(396,r77Val g p3 p6 b id t w4 gg 0),(397,r77Val g p3 p6 b id t w4 gg 1),(398,r77Val g p3 p6 b id t w4 gg 2),(399,r77Val g p3 p6 b id t w4 gg 3),(400,r77Val g p3 p6 b id t w4 gg 4),(401,r77Val g p3 p6 b id t w4 gg 5),(402,r77Val g p3 p6 b id t w4 gg 6),(403,r77Val g p3 p6 b id t w4 gg 7)]
theorem r77_region (ok:r77Ok g p3 p6 b id t w4 a0 W0) (hz:a0.tmps.size=406) (hd:a0.defers=[]) (g0:Unit) (hm:r77Mem g p3 p6 b id t w4 W0 g0 (Array.replicate 9 false) W)
  (hQ:∀(gg:Unit) (ll:Array Bool) (W':World),(∀k,k<9->ll.getD k false=true)->r77Mem g p3 p6 b id t w4 W0 gg ll W'->Q .normal ⟨DG.setQ a0.tmps (r77L g p3 p6 b id t w4 gg),[]⟩ W'):
  wpAny Tryz.prog .any r77Ops Q 9 (Array.replicate 9 false) a0 W:=
 DG.region2 (c:=r77K g p3 p6 b id t w4 a0 W0) (r77_ok ok hz) kR hd g0 hm (r77L g p3 p6 b id t w4) (λ_=>rfl) hQ
end
end Go.Proofs.YtemkbjaojinaoaaGreat
